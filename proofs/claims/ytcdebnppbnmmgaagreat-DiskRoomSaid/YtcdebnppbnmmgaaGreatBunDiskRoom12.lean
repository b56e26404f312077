/- Texts that the proof of DiskRoom stands on, part 12. -/
import Derived.Test.YtcdebnppbnmmgaaGreatProg
import Derived.Test.YtcdebnppbnmmgaaGreatBunDiskRoom11

namespace Go.Proofs.YtcdebnppbnmmgaaGreat
open Go Go.Proofs.YtcdebnppbnmmgaaGreat.X
set_option linter.unusedVariables false
set_option linter.unusedSimpArgs false
abbrev ptrV (b : Nat) : Value := .pointer (some ⟨b, 0, none⟩)
/-- A disk's cells. -/
abbrev dkL (rm : Int) (bf : Option Nat) (mk : Int) (bd bx : Option Nat) (A : Option Addr) (n c : Nat) (bl : Option Nat) (fu : Bool) (lf : Int) : List Value := [.int .i64 rm, .map bf, .int .i64 mk, .map bd, .map bx, .slice A n c, .map bl, .bool fu, .int .i64 lf]
/-- No disk, or an empty struct of one. -/
def Nob (w : World) (p : Option Addr) : Prop := p = none ∨ ∃ b, p = some ⟨b, 0, none⟩ ∧ Blk w b (dkL 0 none 0 none none none 0 0 none false 0) 71
theorem Nob.keep {w w' : World} {p : Option Addr} (h : Nob w p) (k : Keep w w') : Nob w' p := h.imp id fun ⟨b, e, h⟩ => ⟨b, e, h.keep k⟩
set_option maxHeartbeats 4000000 in
set_option maxRecDepth 100000 in
theorem is_c {b : Nat} {rm mk lf : Int} {bf bx bl : Option Nat} {bd : Nat} {A : Option Addr} {n c : Nat} {fu : Bool} (w : World) (hB : Blk w b (dkL rm bf mk (some bd) bx A n c bl fu lf) 71) : Ret Tryz.prog 32 #[ptrV b] w fun r w' => r = .bool true ∧ Keep w w' := by
  refine X.enter Tryz.func32 rfl Tryz.ntmps32 rfl ?_
  refine X.seq ?_
  refine X.region ?_
  refine X.opw X.wN rfl (X.assign rfl) ?_
  refine X.opsEnd ?_
  refine X.seq ?_
  refine X.region ?_
  refine X.opw X.wN rfl (X.move rfl) ?_
  refine X.opw X.wN rfl (X.nePtrN (A := some _) Tryz.underlying26 rfl rfl) ?_
  refine X.opw X.wN rfl (X.move (v := .bool true) rfl) ?_
  refine X.opw (X.wG rfl rfl rfl) rfl (X.move rfl) ?_
  refine X.opw (X.wG rfl rfl rfl) rfl (X.nilCk rfl) ?_
  refine X.opw (X.wG rfl rfl rfl) rfl (X.fldB (j := 3) Tryz.underlying71 rfl rfl Tryz.sizeOf67 rfl) ?_
  refine X.opw (X.wG rfl rfl rfl) rfl (X.load1B Tryz.isAgg67 hB rfl rfl) ?_
  refine X.opw (X.wG rfl rfl rfl) rfl (X.neMap1 Tryz.underlying67 rfl rfl) ?_
  refine X.opw X.wN rfl (X.pickT (v := .bool true) rfl rfl) ?_
  refine X.opw X.wN rfl (X.assign (v := .bool true) rfl) ?_
  refine X.opsEnd ?_
  refine X.ret1 (v := (.bool _)) Tryz.func32 Tryz.results32 rfl ?_
  exact ⟨rfl, (Keep.refl _)⟩
end Go.Proofs.YtcdebnppbnmmgaaGreat

namespace Go.Proofs.YtcdebnppbnmmgaaGreat
open Go Go.Proofs.YtcdebnppbnmmgaaGreat.X
set_option linter.unusedVariables false
set_option linter.unusedSimpArgs false
set_option maxHeartbeats 4000000 in
set_option maxRecDepth 100000 in
theorem Down_c {b bd : Nat} {rm mk lf : Int} {bf bx bl : Option Nat} {A : Option Addr} {n c : Nat} {fu : Bool} (w : World) (hB : Blk w b (dkL rm bf mk (some bd) bx A n c bl fu lf) 71) : Ret Tryz.prog 36 #[ptrV b] w fun r w' => r = .bool (fu && decide (lf ≤ 0)) ∧ Keep w w' := by
  refine X.enter Tryz.func36 rfl Tryz.ntmps36 rfl ?_
  refine X.seq ?_
  refine X.region ?_
  refine X.opw X.wN rfl (X.assign rfl) ?_
  refine X.opsEnd ?_
  refine X.seq ?_
  refine X.region ?_
  refine X.opw X.wN rfl (X.move rfl) ?_
  refine X.opE X.wN rfl (X.callE (is_c _ hB) Tryz.call32 rfl rfl) ?_
  rintro _ w1 ⟨rfl, hk1⟩
  have hk1' := hk1.size
  refine X.opw X.wN rfl (X.move (v := .bool true) rfl) ?_
  refine X.opw (X.wG rfl rfl rfl) rfl (X.move rfl) ?_
  refine X.opw (X.wG rfl rfl rfl) rfl (X.nilCk rfl) ?_
  refine X.opw (X.wG rfl rfl rfl) rfl (X.fldB (j := 7) Tryz.underlying71 rfl rfl Tryz.sizeOf4 rfl) ?_
  refine X.opw (X.wG rfl rfl rfl) rfl (X.load1B Tryz.isAgg4 (hB.keep hk1) rfl rfl) ?_
  refine X.opw X.wN rfl (X.pickT (v := .bool _) rfl rfl) ?_
  refine X.opw X.wN rfl (X.move (v := .bool _) rfl) ?_
  refine X.forkO 11 rfl (fun h11 => ?_) (fun h11 => ?_)
  · refine X.opw (X.wG rfl rfl rfl) rfl (X.move rfl) ?_
    refine X.opw (X.wG rfl rfl rfl) rfl (X.nilCk rfl) ?_
    refine X.opw (X.wG rfl rfl rfl) rfl (X.fldB (j := 8) Tryz.underlying71 rfl rfl Tryz.sizeOf3 rfl) ?_
    refine X.opw (X.wG rfl rfl rfl) rfl (X.load1B Tryz.isAgg3 (hB.keep hk1) rfl rfl) ?_
    refine X.opw (X.wG rfl rfl rfl) rfl (X.leq rfl rfl) ?_
    refine X.opw X.wN rfl (X.pickT (v := .bool _) rfl rfl) ?_
    refine X.opw X.wN rfl (X.assign (v := .bool _) rfl) ?_
    refine X.opsEnd ?_
    refine X.ret1 (v := (.bool _)) Tryz.func36 Tryz.results36 rfl ?_
    refine ⟨?_, hk1⟩
    first | rfl | simp_all
  · refine X.opS rfl rfl rfl rfl rfl ?_
    refine X.opS rfl rfl rfl rfl rfl ?_
    refine X.opS rfl rfl rfl rfl rfl ?_
    refine X.opS rfl rfl rfl rfl rfl ?_
    refine X.opS rfl rfl rfl rfl rfl ?_
    refine X.opw X.wN rfl (X.pickF (v := .bool false) rfl rfl) ?_
    refine X.opw X.wN rfl (X.assign (v := .bool false) rfl) ?_
    refine X.opsEnd ?_
    refine X.ret1 (v := (.bool _)) Tryz.func36 Tryz.results36 rfl ?_
    refine ⟨?_, hk1⟩
    first | rfl | simp_all
set_option maxHeartbeats 4000000 in
set_option maxRecDepth 100000 in
theorem may_c {b bd : Nat} {rm mk lf : Int} {bf bx bl : Option Nat} {A : Option Addr} {n c : Nat} {fu : Bool} (w : World) (hB : Blk w b (dkL rm bf mk (some bd) bx A n c bl fu lf) 71) : Ret Tryz.prog 43 #[ptrV b] w fun r w' => r = .int .i64 (if (fu && decide (lf ≤ 0)) = true then 54 else 0) ∧ Keep w w' := by
  refine X.enter Tryz.func43 rfl Tryz.ntmps43 rfl ?_
  refine X.seq ?_
  refine X.region ?_
  refine X.opw X.wN rfl (X.assign rfl) ?_
  refine X.opsEnd ?_
  refine X.seq ?_
  refine X.block ?_
  refine X.seq ?_
  refine X.region ?_
  refine X.opw X.wN rfl (X.move rfl) ?_
  refine X.opE X.wN rfl (X.callE (is_c _ hB) Tryz.call32 rfl rfl) ?_
  rintro _ w1 ⟨rfl, hk1⟩
  have hk1' := hk1.size
  refine X.opw X.wN rfl (X.not_ rfl) ?_
  refine X.opw X.wN rfl (X.assign (v := .bool false) rfl) ?_
  refine X.opsEnd ?_
  refine X.condF rfl ?_
  refine X.seq ?_
  refine X.region ?_
  refine X.opw X.wN rfl (X.move rfl) ?_
  refine X.opE X.wN rfl (X.callE (Down_c _ (hB.keep hk1)) Tryz.call36 rfl rfl) ?_
  rintro _ w2 ⟨rfl, hk2⟩
  have hk2' := hk2.size
  refine X.opw X.wN rfl (X.assign (v := .bool _) rfl) ?_
  refine X.opsEnd ?_
  refine X.condB rfl (fun hc => ?_) (fun hc => ?_)
  · refine X.seq ?_
    refine X.region ?_
    refine X.opw X.wN rfl (X.assign rfl) ?_
    refine X.opsEnd ?_
    refine X.ret1 (v := (.int .i64 _)) Tryz.func43 Tryz.results43 rfl ?_
    exact ⟨by rw [if_pos hc], (hk1.trans hk2)⟩
  · refine X.skip ?_
    refine X.inBlock ?_
    refine X.seq ?_
    refine X.region ?_
    refine X.opw X.wN rfl (X.assign rfl) ?_
    refine X.opsEnd ?_
    refine X.ret1 (v := (.int .i64 _)) Tryz.func43 Tryz.results43 rfl ?_
    exact ⟨by rw [if_neg (by simpa using hc)], (hk1.trans hk2)⟩
set_option maxHeartbeats 4000000 in
set_option maxRecDepth 100000 in
theorem did_c {b bd : Nat} {rm mk lf : Int} {bf bx bl : Option Nat} {A : Option Addr} {n c : Nat} {fu : Bool} (w : World) (hB : Blk w b (dkL rm bf mk (some bd) bx A n c bl fu lf) 71) (hlf : -1000000000 ≤ lf ∧ lf ≤ 1000000000) : Ret Tryz.prog 46 #[ptrV b] w fun r w' => r = .int .i64 0 ∧ Blk w' b (dkL rm bf mk (some bd) bx A n c bl fu (if fu = true then lf - 1 else lf)) 71 ∧ Ext (fun q => q = b) w w' := by
  refine X.enter Tryz.func46 rfl Tryz.ntmps46 rfl ?_
  refine X.seq ?_
  refine X.region ?_
  refine X.opw X.wN rfl (X.assign rfl) ?_
  refine X.opsEnd ?_
  refine X.seq ?_
  refine X.seq ?_
  refine X.region ?_
  refine X.opw X.wN rfl (X.move rfl) ?_
  refine X.opw X.wN rfl (X.nilCk rfl) ?_
  refine X.opw X.wN rfl (X.fldB (j := 7) Tryz.underlying71 rfl rfl Tryz.sizeOf4 rfl) ?_
  refine X.opw X.wN rfl (X.load1B Tryz.isAgg4 hB rfl rfl) ?_
  refine X.opsEnd ?_
  refine X.condB rfl (fun hc => ?_) (fun hc => ?_)
  · refine X.region ?_
    refine X.opw X.wN rfl (X.move rfl) ?_
    refine X.opw X.wN rfl (X.nilCk rfl) ?_
    refine X.opw X.wN rfl (X.fldB (j := 8) Tryz.underlying71 rfl rfl Tryz.sizeOf3 rfl) ?_
    refine X.opw X.wN rfl (X.load1B Tryz.isAgg3 hB rfl rfl) ?_
    refine X.opw X.wN rfl (X.sub rfl rfl (X.w_i64 (by omega))) ?_
    refine X.opw X.wN rfl (X.nilCk rfl) ?_
    refine X.opw X.wN rfl (X.fldB (j := 8) Tryz.underlying71 rfl rfl Tryz.sizeOf3 rfl) ?_
    refine X.opE X.wN rfl (X.storeE Tryz.sizeOf3 hB rfl rfl rfl rfl) ?_
    rintro _ w1 ⟨hB1, hx1, hz1⟩
    refine X.opsEnd ?_
    refine X.seq ?_
    refine X.region ?_
    refine X.opw X.wN rfl (X.assign rfl) ?_
    refine X.opsEnd ?_
    refine X.ret1 (v := (.int .i64 _)) Tryz.func46 Tryz.results46 rfl ?_
    rw [if_pos hc]
    exact ⟨rfl, hB1, (Ext.andThen (Ext.refl (fun q => q = b) _) hx1 (by intro q h1 h2; first | exact (h2 : False).elim | exact h2))⟩
  · refine X.skip ?_
    refine X.seq ?_
    refine X.region ?_
    refine X.opw X.wN rfl (X.assign rfl) ?_
    refine X.opsEnd ?_
    refine X.ret1 (v := (.int .i64 _)) Tryz.func46 Tryz.results46 rfl ?_
    rw [if_neg (by simpa using hc)]
    exact ⟨rfl, hB, (Ext.refl (fun q => q = b) _)⟩
set_option maxHeartbeats 4000000 in
set_option maxRecDepth 100000 in
theorem right_c (nm : ByteArray) (w : World) (hs : nm.size ≤ 9223372036854775807) : Ret Tryz.prog 44 #[.string nm] w fun r w' => r = .bool (decide (nm ≠ ⟨#[]⟩ ∧ nm.size ≤ 64)) ∧ Keep w w' := by
  refine X.enter Tryz.func44 rfl Tryz.ntmps44 rfl ?_
  refine X.seq ?_
  refine X.region ?_
  refine X.opw X.wN rfl (X.assign rfl) ?_
  refine X.opsEnd ?_
  refine X.seq ?_
  refine X.region ?_
  refine X.opw X.wN rfl (X.move (v := .string _) rfl) ?_
  refine X.opP X.wN rfl rfl (X.neD rfl rfl) (fun h4 => ?_) (fun h4 => ?_)
  · refine X.opw X.wN rfl (X.move (v := .bool true) rfl) ?_
    refine X.opw (X.wG rfl rfl rfl) rfl (X.move (v := .string _) rfl) ?_
    refine X.opw (X.wG rfl rfl rfl) rfl (X.lenS Tryz.underlying9 rfl) ?_
    refine X.opw (X.wG rfl rfl rfl) rfl (X.leq rfl rfl) ?_
    refine X.opw X.wN rfl (X.pickT (v := .bool _) rfl rfl) ?_
    refine X.opw X.wN rfl (X.assign (v := .bool _) rfl) ?_
    refine X.opsEnd ?_
    refine X.ret1 (v := (.bool _)) Tryz.func44 Tryz.results44 rfl ?_
    refine ⟨?_, (Keep.refl _)⟩
    congr 1
    first | (rw [decide_eq_decide]; exact ⟨fun h => ⟨by assumption, by omega⟩, fun h => by have := h.2; omega⟩) | exact (decide_eq_false (fun h => absurd h.1 (by assumption))).symm | simp_all
  · refine X.opw X.wN rfl (X.move (v := .bool false) rfl) ?_
    refine X.opS rfl rfl rfl rfl rfl ?_
    refine X.opS rfl rfl rfl rfl rfl ?_
    refine X.opS rfl rfl rfl rfl rfl ?_
    refine X.opw X.wN rfl (X.pickF (v := .bool false) rfl rfl) ?_
    refine X.opw X.wN rfl (X.assign (v := .bool false) rfl) ?_
    refine X.opsEnd ?_
    refine X.ret1 (v := (.bool _)) Tryz.func44 Tryz.results44 rfl ?_
    refine ⟨?_, (Keep.refl _)⟩
    congr 1
    first | (rw [decide_eq_decide]; exact ⟨fun h => ⟨by assumption, by omega⟩, fun h => by have := h.2; omega⟩) | exact (decide_eq_false (fun h => absurd h.1 (by assumption))).symm | simp_all
set_option maxHeartbeats 4000000 in
set_option maxRecDepth 100000 in
theorem sectors_c (n : Nat) (w : World) (hn : n ≤ 1000000000) : Ret Tryz.prog 48 #[.int .i64 (n : Int)] w fun r w' => r = .int .i64 (((n + 63) / 64 : Nat) : Int) ∧ Keep w w' := by
  refine X.enter Tryz.func48 rfl Tryz.ntmps48 rfl ?_
  refine X.seq ?_
  refine X.region ?_
  refine X.opw X.wN rfl (X.assign rfl) ?_
  refine X.opsEnd ?_
  refine X.seq ?_
  refine X.region ?_
  refine X.opw X.wN rfl (X.move (v := .int .i64 _) rfl) ?_
  refine X.opw X.wN rfl (X.add rfl rfl (X.w_i64 (by omega))) ?_
  refine X.opw X.wN rfl (X.sub rfl rfl (X.w_i64 (by omega))) ?_
  refine X.opw X.wN rfl (X.quo (c := (((n + 63) / 64 : Nat) : Int)) rfl rfl (by decide) (by rw [show ((n : Int) + 64 - 1).tdiv 64 = (((n + 63) / 64 : Nat) : Int) by rw [show (n : Int) + 64 - 1 = ((n + 63 : Nat) : Int) by omega]; rfl]; exact X.w_i64 (by omega))) ?_
  refine X.opw X.wN rfl (X.assign (v := .int .i64 _) rfl) ?_
  refine X.opsEnd ?_
  refine X.ret1 (v := (.int .i64 _)) Tryz.func48 Tryz.results48 rfl ?_
  exact ⟨rfl, (Keep.refl _)⟩
end Go.Proofs.YtcdebnppbnmmgaaGreat

namespace Go.Proofs.YtcdebnppbnmmgaaGreat
open Go Go.Proofs.YtcdebnppbnmmgaaGreat.X
set_option linter.unusedVariables false
set_option linter.unusedSimpArgs false
abbrev CHG := ByteArray × ByteArray × Int
abbrev DIR := List (ByteArray × Int)
abbrev evCh (c : CHG) : Value := .agg #[.string c.1, .string c.2.1, .int .i64 c.2.2]
abbrev MPD (w : World) (b : Nat) (d : DIR) : Prop := MpV (fun x : ByteArray => Value.string x) (fun v : Int => Value.int .i64 v) w b d
/-- A directory, changed. -/
def trn (c : CHG) (d : DIR) : DIR := (fun e => if c.2.1 = ⟨#[]⟩ then e else put c.2.1 c.2.2 e) (if c.1 = ⟨#[]⟩ then d else del c.1 d)
theorem MPD.nd {w : World} {b : Nat} {d : DIR} (h : MPD w b d) : (d.map (·.1)).Nodup := by
  have := h.nodup
  rw [mv, List.map_map] at this
  exact this
set_option maxHeartbeats 4000000 in
set_option maxRecDepth 100000 in
theorem turn_c {b : Nat} {d : DIR} (c : CHG) (w : World) (hG : MPD w b d) : Ret Tryz.prog 52 #[.map (some b), evCh c] w fun r w' => r = .tuple #[] ∧ MPD w' b (trn c d) ∧ Ext (fun q => q = b) w w' := by
  have hb := hG.lt
  refine X.enter Tryz.func52 rfl Tryz.ntmps52 rfl ?_
  refine X.seq ?_
  refine X.region ?_
  refine X.opE X.wN rfl (X.boxE rfl rfl) ?_
  rintro _ w1 ⟨rfl, hB1, hk1, hz1⟩
  refine X.opsEnd ?_
  refine X.seq ?_
  refine X.seq ?_
  refine X.region ?_
  refine X.opw X.wN rfl (X.fldB (j := 0) Tryz.underlying90 rfl rfl Tryz.sizeOf9 rfl) ?_
  refine X.opw X.wN rfl (X.load1B Tryz.isAgg9 hB1 rfl rfl) ?_
  refine X.opP X.wN rfl rfl (X.neD rfl rfl) (fun h6 => ?_) (fun h6 => ?_)
  · refine X.opsEnd ?_
    refine X.condT rfl ?_
    refine X.region ?_
    refine X.opw X.wN rfl (X.move rfl) ?_
    refine X.opw X.wN rfl (X.fldB (j := 0) Tryz.underlying90 rfl rfl Tryz.sizeOf9 rfl) ?_
    refine X.opw X.wN rfl (X.load1B Tryz.isAgg9 hB1 rfl rfl) ?_
    refine X.opE X.wN rfl (X.deleteV (enc := fun x : ByteArray => Value.string x) (venc := fun v : Int => Value.int .i64 v) (a := c.1) Tryz.underlying67 (keyStr Tryz.underlying9) (hG.keep hk1) rfl rfl) ?_
    rintro _ w2 ⟨rfl, hG2, hx2, hz2⟩
    refine X.opsEnd ?_
    refine X.seq ?_
    refine X.region ?_
    refine X.opw X.wN rfl (X.fldB (j := 1) Tryz.underlying90 rfl rfl Tryz.sizeOf9 rfl) ?_
    refine X.opw X.wN rfl (X.load1B Tryz.isAgg9 (hB1.ext hx2 (by first | (intros; (try simp only []); omega) | (intro h; have h : _ = b := h; omega))) rfl rfl) ?_
    refine X.opP X.wN rfl rfl (X.neD rfl rfl) (fun h12 => ?_) (fun h12 => ?_)
    · refine X.opsEnd ?_
      refine X.condT rfl ?_
      refine X.region ?_
      refine X.opw X.wN rfl (X.move rfl) ?_
      refine X.opw X.wN rfl (X.fldB (j := 1) Tryz.underlying90 rfl rfl Tryz.sizeOf9 rfl) ?_
      refine X.opw X.wN rfl (X.load1B Tryz.isAgg9 (hB1.ext hx2 (by first | (intros; (try simp only []); omega) | (intro h; have h : _ = b := h; omega))) rfl rfl) ?_
      refine X.opw X.wN rfl (X.fldB (j := 2) Tryz.underlying90 rfl rfl Tryz.sizeOf3 rfl) ?_
      refine X.opw X.wN rfl (X.load1B Tryz.isAgg3 (hB1.ext hx2 (by first | (intros; (try simp only []); omega) | (intro h; have h : _ = b := h; omega))) rfl rfl) ?_
      refine X.opE X.wN rfl (X.updateV (enc := fun x : ByteArray => Value.string x) (venc := fun v : Int => Value.int .i64 v) (v := c.2.2) Tryz.underlying67 (keyStr Tryz.underlying9) hG2 rfl rfl rfl) ?_
      rintro _ w3 ⟨hG3, hx3, hz3⟩
      refine X.opsEnd ?_
      refine X.end0 Tryz.func52 Tryz.results52 ?_
      have e1 : ¬ c.1 = ⟨#[]⟩ := by first | exact h6 | simpa using h6
      have e2 : ¬ c.2.1 = ⟨#[]⟩ := by first | exact h12 | simpa using h12
      refine ⟨rfl, ?_, (Ext.andThen (Ext.andThen (Ext.andThen (Ext.refl (fun q => q = b) _) hk1 (by intro q h1 h2; first | exact (h2 : False).elim | exact h2)) hx2 (by intro q h1 h2; first | exact (h2 : False).elim | exact h2)) hx3 (by intro q h1 h2; first | exact (h2 : False).elim | exact h2))⟩
      simp only [trn, if_neg e1, if_neg e2]
      exact hG3
    · refine X.opsEnd ?_
      refine X.condF rfl ?_
      refine X.skip ?_
      refine X.end0 Tryz.func52 Tryz.results52 ?_
      have e1 : ¬ c.1 = ⟨#[]⟩ := by first | exact h6 | simpa using h6
      have e2 : c.2.1 = ⟨#[]⟩ := by first | exact h12 | simpa using h12
      refine ⟨rfl, ?_, (Ext.andThen (Ext.andThen (Ext.refl (fun q => q = b) _) hk1 (by intro q h1 h2; first | exact (h2 : False).elim | exact h2)) hx2 (by intro q h1 h2; first | exact (h2 : False).elim | exact h2))⟩
      simp only [trn, if_neg e1, if_pos e2]
      exact hG2
  · refine X.opsEnd ?_
    refine X.condF rfl ?_
    refine X.skip ?_
    refine X.seq ?_
    refine X.region ?_
    refine X.opw X.wN rfl (X.fldB (j := 1) Tryz.underlying90 rfl rfl Tryz.sizeOf9 rfl) ?_
    refine X.opw X.wN rfl (X.load1B Tryz.isAgg9 hB1 rfl rfl) ?_
    refine X.opP X.wN rfl rfl (X.neD rfl rfl) (fun h12 => ?_) (fun h12 => ?_)
    · refine X.opsEnd ?_
      refine X.condT rfl ?_
      refine X.region ?_
      refine X.opw X.wN rfl (X.move rfl) ?_
      refine X.opw X.wN rfl (X.fldB (j := 1) Tryz.underlying90 rfl rfl Tryz.sizeOf9 rfl) ?_
      refine X.opw X.wN rfl (X.load1B Tryz.isAgg9 hB1 rfl rfl) ?_
      refine X.opw X.wN rfl (X.fldB (j := 2) Tryz.underlying90 rfl rfl Tryz.sizeOf3 rfl) ?_
      refine X.opw X.wN rfl (X.load1B Tryz.isAgg3 hB1 rfl rfl) ?_
      refine X.opE X.wN rfl (X.updateV (enc := fun x : ByteArray => Value.string x) (venc := fun v : Int => Value.int .i64 v) (v := c.2.2) Tryz.underlying67 (keyStr Tryz.underlying9) (hG.keep hk1) rfl rfl rfl) ?_
      rintro _ w4 ⟨hG4, hx4, hz4⟩
      refine X.opsEnd ?_
      refine X.end0 Tryz.func52 Tryz.results52 ?_
      have e1 : c.1 = ⟨#[]⟩ := by first | exact h6 | simpa using h6
      have e2 : ¬ c.2.1 = ⟨#[]⟩ := by first | exact h12 | simpa using h12
      refine ⟨rfl, ?_, (Ext.andThen (Ext.andThen (Ext.refl (fun q => q = b) _) hk1 (by intro q h1 h2; first | exact (h2 : False).elim | exact h2)) hx4 (by intro q h1 h2; first | exact (h2 : False).elim | exact h2))⟩
      simp only [trn, if_pos e1, if_neg e2]
      exact hG4
    · refine X.opsEnd ?_
      refine X.condF rfl ?_
      refine X.skip ?_
      refine X.end0 Tryz.func52 Tryz.results52 ?_
      have e1 : c.1 = ⟨#[]⟩ := by first | exact h6 | simpa using h6
      have e2 : c.2.1 = ⟨#[]⟩ := by first | exact h12 | simpa using h12
      refine ⟨rfl, ?_, (Ext.andThen (Ext.refl (fun q => q = b) _) hk1 (by intro q h1 h2; first | exact (h2 : False).elim | exact h2))⟩
      simp only [trn, if_pos e1, if_pos e2]
      exact (hG.keep hk1)
end Go.Proofs.YtcdebnppbnmmgaaGreat

namespace Go.Proofs.YtcdebnppbnmmgaaGreat
open Go Go.Proofs.YtcdebnppbnmmgaaGreat.X
set_option linter.unusedVariables false
set_option linter.unusedSimpArgs false
def KCh : Kd CHG := Kd.plain 3 (fun x => [.string x.1, .string x.2.1, .int .i64 x.2.2]) (fun _ => True) (fun _ => rfl) (fun _ u hu => by simp at hu; rcases hu with rfl | rfl | rfl <;> rfl)
theorem KCh_flat : Flat KCh := fun h => h
theorem repsCh {w : World} (x : CHG) : RepsV KCh w [x] [evCh x] := ⟨⟨_, rfl, rfl, trivial⟩, trivial⟩
theorem ECh : ElemInfo Tryz.prog 90 3 40 := ElemInfo.of (z := .agg #[.string ⟨#[]⟩, .string ⟨#[]⟩, .int .i64 0]) (by kernel_rfl) rfl rfl rfl
set_option maxHeartbeats 4000000 in
set_option maxRecDepth 100000 in
theorem note_c {S : Nat → Prop} {b bd : Nat} {rm mk lf : Int} {bf bx bl : Option Nat} {A : Option Addr} {n c : Nat} {fu : Bool} {d : DIR} {chs : List CHG} (x : CHG) (w : World) (hB : Blk w b (dkL rm bf mk (some bd) bx A n c bl fu lf) 71) (hG : MPD w bd d) (hM : Mine KCh 90 S 0 0 w (.slice A n c) chs) (hbd : b ≠ bd) (hSb : ¬ S b) (hSd : ¬ S bd) (hSl : ∀ q, S q → q < w.heap.size) (hn : chs.length ≤ 100000) : Ret Tryz.prog 45 #[ptrV b, evCh x] w fun r w' => r = .tuple #[] ∧ ∃ A' n' c', Blk w' b (dkL rm bf mk (some bd) bx A' n' c' bl fu lf) 71 ∧ MPD w' bd (trn x d) ∧ Mine KCh 90 (fun q => S q ∨ (w.heap.size ≤ q ∧ q < w'.heap.size)) 0 0 w' (.slice A' n' c') (chs ++ [x]) ∧ Ext (fun q => q = b ∨ q = bd ∨ S q) w w' := by
  have hbl := hB.lt
  have hdl := hG.lt
  refine X.enter Tryz.func45 rfl Tryz.ntmps45 rfl ?_
  refine X.seq ?_
  refine X.region ?_
  refine X.opE X.wN rfl (X.boxE rfl rfl) ?_
  rintro _ w1 ⟨rfl, hB1, hk1, hz1⟩
  refine X.opsEnd ?_
  refine X.seq ?_
  refine X.regionD (fun _ => False) 5 (by kernel_rfl) (by kernel_rfl) (fun w2 hk2 hz2 => ?_)
  refine X.dTake 4 rfl (by kernel_rfl) (by kernel_rfl) (by kernel_rfl) (X.dwN rfl) (fun w' hk' => X.loadNB Tryz.isAgg90 Tryz.sizeOf90 (hB1.keep (hk2.trans hk')) rfl rfl rfl) ?_
  refine X.dStep (i := 0) (by kernel_rfl) rfl (X.dwN rfl) (X.move rfl) (fun _ => Ext.refl _ _) ?_
  refine X.dStep (i := 1) (by kernel_rfl) rfl (X.dwN rfl) (X.nilCk rfl) (fun _ => Ext.refl _ _) ?_
  refine X.dStep (i := 2) (by kernel_rfl) rfl (X.dwN rfl) (X.fldB (j := 3) Tryz.underlying71 rfl rfl Tryz.sizeOf67 rfl) (fun _ => Ext.refl _ _) ?_
  refine X.dTake 3 rfl (by kernel_rfl) (by kernel_rfl) (by kernel_rfl) (X.dwN rfl) (fun w' hk' => X.load1B Tryz.isAgg67 (hB.keep ((hk1.trans hk2).trans hk')) rfl rfl) ?_
  refine X.dE (i := 5) (by kernel_rfl) rfl (X.dwN rfl) (X.callE (turn_c x _ (hG.keep (hk1.trans hk2))) Tryz.call52 rfl rfl) (fun _ _ _ h => absurd h (by decide)) ?_
  rintro _ w3 ⟨rfl, hG2, hx3⟩
  have hx3' := hx3.size
  refine X.dEnd (by kernel_rfl) ?_
  refine X.regionD (fun q => S q ∨ w3.heap.size ≤ q) 8 (by kernel_rfl) (by kernel_rfl) (fun w4 hk4 hz4 => ?_)
  refine X.dTake 0 rfl (by kernel_rfl) (by kernel_rfl) (by kernel_rfl) (X.dwN rfl) (fun w' hk' => X.move rfl) ?_
  refine X.dTake 1 rfl (by kernel_rfl) (by kernel_rfl) (by kernel_rfl) (X.dwN rfl) (fun w' hk' => X.move rfl) ?_
  refine X.dTake 2 rfl (by kernel_rfl) (by kernel_rfl) (by kernel_rfl) (X.dwN rfl) (fun w' hk' => X.nilCk rfl) ?_
  refine X.dTake 3 rfl (by kernel_rfl) (by kernel_rfl) (by kernel_rfl) (X.dwN rfl) (fun w' hk' => X.fldB (j := 5) Tryz.underlying71 rfl rfl Tryz.sizeOf68 rfl) ?_
  refine X.dTake 4 rfl (by kernel_rfl) (by kernel_rfl) (by kernel_rfl) (X.dwN rfl) (fun w' hk' => X.load1B Tryz.isAgg68 ((((hB.keep (hk1.trans hk2)).ext hx3 (by first | (intros; (try simp only []); omega) | (intro h; have h : _ = bd := h; omega) | exact fun h => h.elim hSb (fun h => by omega) | exact fun h => h.elim (fun h => by (have := hSl _ h; omega)) (fun h => by omega))).keep hk4).ext hk' (by first | (intros; (try simp only []); omega) | (intro h; have h : _ = bd := h; omega) | exact fun h => h.elim hSb (fun h => by omega) | exact fun h => h.elim (fun h => by (have := hSl _ h; omega)) (fun h => by omega))) rfl rfl) ?_
  refine X.dTake 5 rfl (by kernel_rfl) (by kernel_rfl) (by kernel_rfl) (X.dwN rfl) (fun w' hk' => X.loadNB Tryz.isAgg90 Tryz.sizeOf90 ((((hB1.keep hk2).ext hx3 (by first | (intros; (try simp only []); omega) | (intro h; have h : _ = bd := h; omega) | exact fun h => h.elim hSb (fun h => by omega) | exact fun h => h.elim (fun h => by (have := hSl _ h; omega)) (fun h => by omega))).keep hk4).ext hk' (by first | (intros; (try simp only []); omega) | (intro h; have h : _ = bd := h; omega) | exact fun h => h.elim hSb (fun h => by omega) | exact fun h => h.elim (fun h => by (have := hSl _ h; omega)) (fun h => by omega))) rfl rfl rfl) ?_
  refine X.dE (i := 6) (by kernel_rfl) rfl (X.dwN rfl) (X.litKF KCh_flat (K := KCh) (xs := [Operand.tmp 15]) (vs := [evCh x]) (ys := [x]) Tryz.underlying68 Tryz.sizeOf90 Tryz.zeroValue90 rfl rfl rfl rfl rfl (repsCh x)) (by rintro _ w5 ⟨rfl, hs5, hB5, hk5, hz5⟩ _; exact hk5.mono (fun _ _ h => h.elim)) ?_
  rintro _ w5 ⟨rfl, hs5, hB5, hk5, hz5⟩
  refine X.dE (i := 7) (by kernel_rfl) rfl (X.dwN rfl) (X.appE (K := KCh) (S := fun q => S q ∨ w3.heap.size ≤ q) KCh_flat Tryz.underlying68 ECh rfl rfl (Mine.mono (T := fun q => S q ∨ w3.heap.size ≤ q) (((((hM.keep hk1).keep hk2).ext hx3 (by intros; omega) (fun q h1 h2 => by have h2 : q = bd := h2; subst h2; exact hSd h1)).keep hk4).keep hk5) (fun q _ h => .inl h)) hs5 (by (try simp only [List.length_append, List.length_cons, List.length_nil, List.length_take, List.length_drop, List.length_map, List.length_range]); omega) (by intros; first | exact .inr (by omega) | (right; omega))) (by rintro v6 w6 ⟨hMa, hx6⟩ _; exact hx6) ?_
  rintro v6 w6 ⟨hMa, hx6⟩
  have hx6' := hx6.size
  refine X.dStep (i := 8) (by kernel_rfl) rfl (X.dwN rfl) (X.nilCk rfl) (fun h => absurd h (by decide)) ?_
  refine X.dStep (i := 9) (by kernel_rfl) rfl (X.dwN rfl) (X.fldB (j := 5) Tryz.underlying71 rfl rfl Tryz.sizeOf68 rfl) (fun h => absurd h (by decide)) ?_
  have q7 := hMa.slF KCh_flat 0 (fun _ _ => Nat.zero_le _)
  obtain ⟨A7, c7, rfl, hc7, hs7⟩ := q7
  refine X.dE (i := 10) (by kernel_rfl) rfl (X.dwN rfl) (X.storeE Tryz.sizeOf68 ((((hB.keep (hk1.trans hk2)).ext hx3 (by first | (intros; (try simp only []); omega) | (intro h; have h : _ = bd := h; omega) | exact fun h => h.elim hSb (fun h => by omega) | exact fun h => h.elim (fun h => by (have := hSl _ h; omega)) (fun h => by omega))).keep (hk4.trans hk5)).ext hx6 (by first | (intros; (try simp only []); omega) | (intro h; have h : _ = bd := h; omega) | exact fun h => h.elim hSb (fun h => by omega) | exact fun h => h.elim (fun h => by (have := hSl _ h; omega)) (fun h => by omega))) rfl rfl rfl rfl) (fun _ _ _ h => absurd h (by decide)) ?_
  rintro _ w8 ⟨hB8, hx8, hz8⟩
  refine X.dEnd (by kernel_rfl) ?_
  refine X.end0 Tryz.func45 Tryz.results45 ?_
  exact ⟨rfl, _, _, _, hB8, ((((hG2.keep hk4).keep hk5).ext hx6 (fun h => by first | exact h.elim hSd (fun h => by omega) | exact hbd h.symm | exact hbd h)).ext hx8 (fun h => by first | exact h.elim hSd (fun h => by omega) | exact hbd h.symm | exact hbd h)), ((hMa.ext hx8 (by intros; omega) (fun q h1 h2 => by have h2 : q = b := h2; subst h2; exact h1.elim hSb (fun h => by omega)))).mono (fun k hk h => h.imp id (fun h => ⟨by omega, hk⟩)), (Ext.andThen (Ext.andThen (Ext.andThen (Ext.andThen (Ext.andThen (Ext.andThen (Ext.andThen (Ext.refl (fun q => q = b ∨ q = bd ∨ S q) _) hk1 (by intro q h1 h2; first | exact (h2 : False).elim | exact .inl h2 | exact .inr (.inl h2) | exact h2.elim (fun h => .inr (.inr h)) (fun h => by omega))) hk2 (by intro q h1 h2; first | exact (h2 : False).elim | exact .inl h2 | exact .inr (.inl h2) | exact h2.elim (fun h => .inr (.inr h)) (fun h => by omega))) hx3 (by intro q h1 h2; first | exact (h2 : False).elim | exact .inl h2 | exact .inr (.inl h2) | exact h2.elim (fun h => .inr (.inr h)) (fun h => by omega))) hk4 (by intro q h1 h2; first | exact (h2 : False).elim | exact .inl h2 | exact .inr (.inl h2) | exact h2.elim (fun h => .inr (.inr h)) (fun h => by omega))) hk5 (by intro q h1 h2; first | exact (h2 : False).elim | exact .inl h2 | exact .inr (.inl h2) | exact h2.elim (fun h => .inr (.inr h)) (fun h => by omega))) hx6 (by intro q h1 h2; first | exact (h2 : False).elim | exact .inl h2 | exact .inr (.inl h2) | exact h2.elim (fun h => .inr (.inr h)) (fun h => by omega))) hx8 (by intro q h1 h2; first | exact (h2 : False).elim | exact .inl h2 | exact .inr (.inl h2) | exact h2.elim (fun h => .inr (.inr h)) (fun h => by omega)))⟩
end Go.Proofs.YtcdebnppbnmmgaaGreat

namespace Go.Proofs.YtcdebnppbnmmgaaGreat
open Go Go.Proofs.YtcdebnppbnmmgaaGreat.X
set_option linter.unusedVariables false
set_option linter.unusedSimpArgs false
def KEn : Kd (ByteArray × Int) := Kd.plain 2 (fun x => [.string x.1, .int .i64 x.2]) (fun _ => True) (fun _ => rfl) (fun _ u hu => by simp at hu; rcases hu with rfl | rfl <;> rfl)
theorem KEn_flat : Flat KEn := fun h => h
abbrev evEn (c : ByteArray × Int) : Value := .agg #[.string c.1, .int .i64 c.2]
theorem repsEn {w : World} (x : ByteArray × Int) : RepsV KEn w [x] [evEn x] := ⟨⟨_, rfl, rfl, trivial⟩, trivial⟩
theorem EEn : ElemInfo Tryz.prog 121 2 24 := ElemInfo.of (z := .agg #[.string ⟨#[]⟩, .int .i64 0]) (by kernel_rfl) rfl rfl rfl
theorem ERc : ElemInfo Tryz.prog 113 3 40 := ElemInfo.of (z := .agg #[.string ⟨#[]⟩, .string ⟨#[]⟩, .int .i64 0]) (by kernel_rfl) rfl rfl rfl
theorem EIr : ElemInfo Tryz.prog 3 1 8 := ElemInfo.of (z := .int .i64 0) (by kernel_rfl) rfl rfl rfl
theorem rget {α : Type} {l : List α} {n : Nat} (i : Nat) (h : l.length = n) (hi : i < n) : ∃ x, l[i]? = some x := ⟨l[i]'(by omega), List.getElem?_eq_getElem (by omega)⟩
theorem rdrop {α : Type} {l : List α} {i : Nat} {x : α} (h : l[i]? = some x) : l.drop i = x :: l.drop (i + 1) := by
  obtain ⟨h1, h2⟩ := List.getElem?_eq_some_iff.1 h
  rw [List.drop_eq_getElem_cons h1, h2]
theorem rtake {α : Type} {l : List α} {i : Nat} {x : α} (h : l[i]? = some x) : l.take (i + 1) = l.take i ++ [x] := by
  obtain ⟨h1, h2⟩ := List.getElem?_eq_some_iff.1 h
  rw [List.take_add_one, h]; rfl
def isNm (s : ByteArray) : Bool := decide (1 ≤ s.size ∧ s.size ≤ 64)
def rfind (nm : ByteArray) (l : DIR) : Int := (asc nm l).getD (-1)
def sless (a b : ByteArray) : Bool := Op.bytesLess a.data.toList b.data.toList
def rwo (nm : ByteArray) (l : DIR) : DIR := l.filter fun p => decide (p.1 ≠ nm)
def rins (e : ByteArray × Int) (l : DIR) : DIR := l.takeWhile (fun p => sless p.1 e.1) ++ [e] ++ l.dropWhile (fun p => sless p.1 e.1)
def rwith (e : ByteArray × Int) (l : DIR) : DIR := rins e (rwo e.1 l)
theorem cut_at {α : Type} (f : α → Bool) : ∀ {l : List α} {k : Nat}, (∀ j x, j < k → l[j]? = some x → f x = true) → (∀ x, l[k]? = some x → f x = false) → k ≤ l.length → l.takeWhile f = l.take k ∧ l.dropWhile f = l.drop k
  | [], k, _, _, _ => by simp
  | x :: l, 0, _, h2, _ => by
    have := h2 x rfl
    simp [this]
  | x :: l, k + 1, h1, h2, h3 => by
    have hx := h1 0 x (by omega) rfl
    obtain ⟨e1, e2⟩ := cut_at f (l := l) (k := k) (fun j y hj hy => h1 (j + 1) y (by omega) hy) (fun y hy => h2 y hy) (by simp at h3; omega)
    rw [List.takeWhile_cons, hx, List.dropWhile_cons, hx]; simp [e1, e2]
def lput (n : Int) (l : List Int) : List Int := if (l.dropWhile fun x => decide (x < n)).head? = some n then l else l.takeWhile (fun x => decide (x < n)) ++ [n] ++ l.dropWhile (fun x => decide (x < n))
set_option maxHeartbeats 4000000 in
set_option maxRecDepth 100000 in
theorem IsName_c (s : ByteArray) (w : World) : Ret Tryz.prog 55 #[.string s] w fun r w' => r = .bool (isNm s) ∧ Keep w w' := by
  refine X.enter Tryz.func55 rfl Tryz.ntmps55 rfl ?_
  refine X.seq ?_
  refine X.region ?_
  refine X.opw X.wN rfl (X.assign rfl) ?_
  refine X.opsEnd ?_
  refine X.seq ?_
  refine X.region ?_
  refine X.opw X.wN rfl (X.move (v := .string _) rfl) ?_
  refine X.opw X.wN rfl (X.lenS Tryz.underlying9 rfl) ?_
  refine X.opP X.wN rfl rfl (X.geq rfl rfl) (fun h5 => ?_) (fun h5 => ?_)
  · refine X.opw X.wN rfl (X.move (v := .bool true) rfl) ?_
    refine X.opw (X.wG rfl rfl rfl) rfl (X.move (v := .string _) rfl) ?_
    refine X.opw (X.wG rfl rfl rfl) rfl (X.lenS Tryz.underlying9 rfl) ?_
    refine X.opw (X.wG rfl rfl rfl) rfl (X.leq rfl rfl) ?_
    refine X.opw X.wN rfl (X.pickT (v := .bool _) rfl rfl) ?_
    refine X.opw X.wN rfl (X.assign (v := .bool _) rfl) ?_
    refine X.opsEnd ?_
    refine X.ret1 (v := (.bool _)) Tryz.func55 Tryz.results55 rfl ?_
    exact ⟨by rw [isNm]; congr 1; exact decide_eq_decide.2 (by constructor <;> intro _ <;> omega), (Keep.refl _)⟩
  · refine X.opw X.wN rfl (X.move (v := .bool false) rfl) ?_
    refine X.opS rfl rfl rfl rfl rfl ?_
    refine X.opS rfl rfl rfl rfl rfl ?_
    refine X.opS rfl rfl rfl rfl rfl ?_
    refine X.opw X.wN rfl (X.pickF (v := .bool false) rfl rfl) ?_
    refine X.opw X.wN rfl (X.assign (v := .bool false) rfl) ?_
    refine X.opsEnd ?_
    refine X.ret1 (v := (.bool _)) Tryz.func55 Tryz.results55 rfl ?_
    exact ⟨by rw [isNm]; congr 1; exact (decide_eq_false (by omega)).symm, (Keep.refl _)⟩
set_option maxHeartbeats 4000000 in
set_option maxRecDepth 100000 in
theorem Find_c {lo hi n c : Nat} {A : Option Addr} {l : DIR} (nm : ByteArray) (w : World) (hs : Sl KEn lo hi w A n l) (hn : n ≤ 1000000) : Ret Tryz.prog 56 #[.slice A n c, .string nm] w fun r w' => r = .int .i64 (rfind nm l) ∧ Keep w w' := by
  have hl := hs.len
  refine X.enter Tryz.func56 rfl Tryz.ntmps56 rfl ?_
  refine X.seq ?_
  refine X.region ?_
  refine X.opw X.wN rfl (X.assign rfl) ?_
  refine X.opsEnd ?_
  refine X.seq ?_
  refine X.seq ?_
  refine X.region ?_
  refine X.opw X.wN rfl (X.assign rfl) ?_
  refine X.opsEnd ?_
  refine X.block ?_
  refine X.loopL (σ := Nat) (fun s => [(0, .slice A n c), (1, .string nm), (5, .int .i64 (s : Int))]) (fun s w' => s ≤ n ∧ asc nm l = asc nm (l.drop s) ∧ Keep w w') (fun s => n - s) 0 ⟨rfl, rfl, rfl, trivial⟩ ⟨Nat.zero_le _, rfl, (Keep.refl _)⟩ ?_
  rintro i b0 wl ⟨hi, hna, hk⟩ hback
  have hk' := hk.size
  refine X.seq ?_
  refine X.seq ?_
  refine X.region ?_
  refine X.opw X.wN rfl (X.move (v := .int .i64 _) rfl) ?_
  refine X.opw X.wN rfl (X.move (v := .slice _ _ _) rfl) ?_
  refine X.opw X.wN rfl (X.lenSl Tryz.underlying80 rfl) ?_
  refine X.opP X.wN rfl rfl (X.lss rfl rfl) (fun h9 => ?_) (fun h9 => ?_)
  · obtain ⟨x, hx⟩ := rget i hl (by omega)
    have hdr := rdrop hx
    refine X.opsEnd ?_
    refine X.condT rfl ?_
    refine X.skip ?_
    refine X.seq ?_
    refine X.block ?_
    refine X.seq ?_
    refine X.region ?_
    refine X.opw X.wN rfl (X.move (v := .slice _ _ _) rfl) ?_
    refine X.opw X.wN rfl (X.move (v := .int .i64 _) rfl) ?_
    refine X.opw X.wN rfl (X.idxS (hs.keep hk) Tryz.underlying80 Tryz.sizeOf121 rfl rfl ⟨by omega, by omega⟩) ?_
    refine X.opw X.wN rfl (X.fldA Tryz.underlying121 rfl rfl Tryz.sizeOf9) ?_
    refine X.opw X.wN rfl (X.loadSf Tryz.isAgg9 (hs.keep hk) hx rfl (fun _ h => by rw [h.1]; rfl)) ?_
    refine X.opw X.wN rfl (X.move (v := .string _) rfl) ?_
    refine X.opP X.wN rfl rfl (X.eqD rfl rfl) (fun h18 => ?_) (fun h18 => ?_)
    · refine X.opsEnd ?_
      refine X.condT rfl ?_
      refine X.seq ?_
      refine X.region ?_
      refine X.opw X.wN rfl (X.move (v := .slice _ _ _) rfl) ?_
      refine X.opw X.wN rfl (X.move (v := .int .i64 _) rfl) ?_
      refine X.opw X.wN rfl (X.idxS (hs.keep hk) Tryz.underlying80 Tryz.sizeOf121 rfl rfl ⟨by omega, by omega⟩) ?_
      refine X.opw X.wN rfl (X.fldA Tryz.underlying121 rfl rfl Tryz.sizeOf3) ?_
      refine X.opw X.wN rfl (X.loadSf Tryz.isAgg3 (hs.keep hk) hx rfl (fun _ h => by rw [h.1]; rfl)) ?_
      refine X.opw X.wN rfl (X.assign (v := .int .i64 _) rfl) ?_
      refine X.opsEnd ?_
      refine X.ret1 (v := (.int .i64 _)) Tryz.func56 Tryz.results56 rfl ?_
      exact ⟨by rw [rfind, hna, hdr, asc, if_pos h18.symm]; rfl, hk⟩
    · refine X.opsEnd ?_
      refine X.condF rfl ?_
      refine X.skip ?_
      refine X.inBlock ?_
      refine X.region ?_
      refine X.opw X.wN rfl (X.move (v := .int .i64 _) rfl) ?_
      refine X.opw X.wN rfl (X.add rfl rfl (X.w_i64 (by omega))) ?_
      refine X.opw X.wN rfl (X.assign (v := .int .i64 _) rfl) ?_
      refine X.opsEnd ?_
      refine hback (i + 1) _ _ ⟨rfl, rfl, rfl, trivial⟩ ⟨by omega, by rw [hna, hdr, asc, if_neg (fun e => h18 e.symm)], hk⟩ (by omega)
  · refine X.opsEnd ?_
    refine X.condF rfl ?_
    refine X.exit rfl ?_
    refine X.seq ?_
    refine X.region ?_
    refine X.opw X.wN rfl (X.assign rfl) ?_
    refine X.opsEnd ?_
    refine X.ret1 (v := (.int .i64 _)) Tryz.func56 Tryz.results56 rfl ?_
    exact ⟨by rw [rfind, hna, List.drop_eq_nil_of_le (by omega)]; rfl, hk⟩
set_option maxHeartbeats 4000000 in
set_option maxRecDepth 100000 in
theorem without_c {lo hi n c : Nat} {A : Option Addr} {l : DIR} (nm : ByteArray) (w : World) (hs : Sl KEn lo hi w A n l) (hn : n ≤ 100000) : Ret Tryz.prog 74 #[.slice A n c, .string nm] w fun r w' => Mine KEn 121 (fun k => w.heap.size ≤ k) 0 0 w' r (rwo nm l) ∧ Keep w w' := by
  have hl := hs.len
  refine X.enter Tryz.func74 rfl Tryz.ntmps74 rfl ?_
  refine X.seq ?_
  refine X.region ?_
  refine X.opw X.wN rfl (X.assign rfl) ?_
  refine X.opsEnd ?_
  refine X.seq ?_
  refine X.region ?_
  refine X.opw X.wN rfl (X.assign rfl) ?_
  refine X.opsEnd ?_
  refine X.seq ?_
  refine X.seq ?_
  refine X.region ?_
  refine X.opw X.wN rfl (X.assign rfl) ?_
  refine X.opsEnd ?_
  refine X.block ?_
  refine X.loopL (σ := Nat × Value) (fun s => [(0, .slice A n c), (1, .string nm), (5, s.2), (6, .int .i64 (s.1 : Int))]) (fun s w' => s.1 ≤ n ∧ Mine KEn 121 (fun k => w.heap.size ≤ k) 0 0 w' s.2 (rwo nm (l.take s.1)) ∧ Keep w w') (fun s => n - s.1) (0, _) ⟨rfl, rfl, rfl, rfl, trivial⟩ ⟨Nat.zero_le _, Mine.nil _ _ _ _ _ _, (Keep.refl _)⟩ ?_
  rintro ⟨i, v⟩ b0 wl ⟨hi, hMo, hk⟩ hback
  dsimp only
  simp only at hi hMo
  have hk' := hk.size
  have hfl : (rwo nm (l.take i)).length ≤ i := Nat.le_trans (List.length_filter_le _ _) (by rw [List.length_take]; omega)
  refine X.seq ?_
  refine X.seq ?_
  refine X.region ?_
  refine X.opw X.wN rfl (X.move (v := .int .i64 _) rfl) ?_
  refine X.opw X.wN rfl (X.move (v := .slice _ _ _) rfl) ?_
  refine X.opw X.wN rfl (X.lenSl Tryz.underlying80 rfl) ?_
  refine X.opP X.wN rfl rfl (X.lss rfl rfl) (fun h10 => ?_) (fun h10 => ?_)
  · obtain ⟨x, hx⟩ := rget i hl (by omega)
    have hdr := rtake hx
    refine X.opsEnd ?_
    refine X.condT rfl ?_
    refine X.skip ?_
    refine X.seq ?_
    refine X.block ?_
    refine X.seq ?_
    refine X.region ?_
    refine X.opw X.wN rfl (X.move (v := .slice _ _ _) rfl) ?_
    refine X.opw X.wN rfl (X.move (v := .int .i64 _) rfl) ?_
    refine X.opw X.wN rfl (X.idxS (hs.keep hk) Tryz.underlying80 Tryz.sizeOf121 rfl rfl ⟨by omega, by omega⟩) ?_
    refine X.opw X.wN rfl (X.fldA Tryz.underlying121 rfl rfl Tryz.sizeOf9) ?_
    refine X.opw X.wN rfl (X.loadSf Tryz.isAgg9 (hs.keep hk) hx rfl (fun _ h => by rw [h.1]; rfl)) ?_
    refine X.opw X.wN rfl (X.move (v := .string _) rfl) ?_
    refine X.opP X.wN rfl rfl (X.neD rfl rfl) (fun h19 => ?_) (fun h19 => ?_)
    · refine X.opsEnd ?_
      refine X.condT rfl ?_
      refine X.region ?_
      refine X.opw X.wN rfl (X.move rfl) ?_
      refine X.opw X.wN rfl (X.move (v := .slice _ _ _) rfl) ?_
      refine X.opw X.wN rfl (X.move (v := .int .i64 _) rfl) ?_
      refine X.opw X.wN rfl (X.idxS (hs.keep hk) Tryz.underlying80 Tryz.sizeOf121 rfl rfl ⟨by omega, by omega⟩) ?_
      refine X.opw X.wN rfl (X.loadSN Tryz.isAgg121 Tryz.sizeOf121 (hs.keep hk) hx rfl (fun _ h => h.1) rfl) ?_
      refine X.opE X.wN rfl (X.litKF KEn_flat (K := KEn) (xs := [Operand.tmp 24]) (vs := [evEn x]) (ys := [x]) Tryz.underlying80 Tryz.sizeOf121 Tryz.zeroValue121 rfl rfl rfl rfl rfl (repsEn _)) ?_
      rintro _ w1 ⟨rfl, hs1, hB1, hk1, hz1⟩
      refine X.opE X.wN rfl (X.appE (K := KEn) (S := fun k => w.heap.size ≤ k) KEn_flat Tryz.underlying80 EEn rfl rfl (hMo.keep hk1) hs1 (by (try simp only [List.length_append, List.length_cons, List.length_nil, List.length_take, List.length_drop, List.length_map, List.length_range]); omega) (by intros; (try simp only [] at *); omega)) ?_
      rintro v2 w2 ⟨hM2, hx2⟩
      have hx2' := hx2.size
      refine X.opw X.wN rfl (X.assign rfl) ?_
      refine X.opsEnd ?_
      refine X.inBlock ?_
      refine X.region ?_
      refine X.opw X.wN rfl (X.move (v := .int .i64 _) rfl) ?_
      refine X.opw X.wN rfl (X.add rfl rfl (X.w_i64 (by omega))) ?_
      refine X.opw X.wN rfl (X.assign (v := .int .i64 _) rfl) ?_
      refine X.opsEnd ?_
      refine hback (i + 1, _) _ _ ⟨rfl, rfl, rfl, rfl, trivial⟩ ⟨by dsimp only; omega, by dsimp only; rw [hdr, rwo, List.filter_append, List.filter_cons_of_pos (by simpa using h19), List.filter_nil]; exact hM2, ((hk.trans hk1).step hx2 (by intros; (try simp only [] at *); omega))⟩ (by dsimp only; omega)
    · refine X.opsEnd ?_
      refine X.condF rfl ?_
      refine X.skip ?_
      refine X.inBlock ?_
      refine X.region ?_
      refine X.opw X.wN rfl (X.move (v := .int .i64 _) rfl) ?_
      refine X.opw X.wN rfl (X.add rfl rfl (X.w_i64 (by omega))) ?_
      refine X.opw X.wN rfl (X.assign (v := .int .i64 _) rfl) ?_
      refine X.opsEnd ?_
      refine hback (i + 1, _) _ _ ⟨rfl, rfl, rfl, rfl, trivial⟩ ⟨by dsimp only; omega, by dsimp only; rw [hdr, rwo, List.filter_append, List.filter_cons_of_neg (by simpa using h19), List.filter_nil, List.append_nil]; exact hMo, hk⟩ (by dsimp only; omega)
  · refine X.opsEnd ?_
    refine X.condF rfl ?_
    refine X.exit rfl ?_
    refine X.seq ?_
    refine X.region ?_
    refine X.opw X.wN rfl (X.move rfl) ?_
    refine X.opw X.wN rfl (X.assign rfl) ?_
    refine X.opsEnd ?_
    refine X.ret1 Tryz.func74 Tryz.results74 rfl ?_
    rw [List.take_of_length_le (by omega)] at hMo
    exact ⟨hMo, hk⟩
end Go.Proofs.YtcdebnppbnmmgaaGreat

namespace Go.Proofs.YtcdebnppbnmmgaaGreat
open Go Go.Proofs.YtcdebnppbnmmgaaGreat.X
set_option linter.unusedVariables false
set_option linter.unusedSimpArgs false
set_option maxHeartbeats 4000000 in
set_option maxRecDepth 100000 in
theorem with_c {lo hi n c : Nat} {A : Option Addr} {l : DIR} (nm : ByteArray) (k : Int) (w : World) (hs : Sl KEn lo hi w A n l) (hn : n ≤ 100000) : Ret Tryz.prog 67 #[.slice A n c, .agg #[.string nm, .int .i64 k]] w fun r w' => Mine KEn 121 (fun k => w.heap.size ≤ k) 0 0 w' r (rwith (nm, k) l) ∧ Keep w w' := by
  have hl := hs.len
  refine X.enter Tryz.func67 rfl Tryz.ntmps67 rfl ?_
  refine X.seq ?_
  refine X.region ?_
  refine X.opE X.wN rfl (X.boxE rfl rfl) ?_
  rintro _ w1 ⟨rfl, hB1, hk1, hz1⟩
  refine X.opw X.wN rfl (X.assign rfl) ?_
  refine X.opsEnd ?_
  refine X.seq ?_
  refine X.region ?_
  refine X.opw X.wN rfl (X.move (v := .slice _ _ _) rfl) ?_
  refine X.opw X.wN rfl (X.fldB (j := 0) Tryz.underlying121 rfl rfl Tryz.sizeOf9 rfl) ?_
  refine X.opw X.wN rfl (X.load1B Tryz.isAgg9 hB1 rfl rfl) ?_
  refine X.opE X.wN rfl (X.callE (without_c _ _ (hs.keep hk1) (by omega)) Tryz.call74 rfl rfl) ?_
  rintro v2 w2 ⟨hM2, hk2⟩
  have hk2' := hk2.size
  refine X.opw X.wN rfl (X.assign rfl) ?_
  refine X.opsEnd ?_
  refine X.seq ?_
  refine X.region ?_
  refine X.opw X.wN rfl (X.assign rfl) ?_
  refine X.opsEnd ?_
  refine X.seq ?_
  refine X.block ?_
  obtain ⟨L, hL⟩ : ∃ L, L = rwo nm l := ⟨_, rfl⟩
  have hM9 := hM2
  rw [← hL] at hM9
  obtain ⟨A9, c9, rfl, hc9, hs9⟩ := hM9.slF KEn_flat w.heap.size (fun _ h => by omega)
  have hLl : L.length ≤ n := by rw [hL, rwo, ← hl]; exact List.length_filter_le _ _
  have hB9 := (hB1.keep hk2)
  have hkA := (hk1.trans hk2)
  refine X.loopL (σ := Nat) (fun s => [(0, .slice A9 L.length c9), (3, .pointer (some ⟨w.heap.size, 0, none⟩)), (5, .int .i64 (s : Int))]) (fun s w' => s ≤ L.length ∧ (∀ j x, j < s → L[j]? = some x → sless x.1 nm = true) ∧ Keep w2 w') (fun s => L.length - s) 0 ⟨rfl, rfl, rfl, trivial⟩ ⟨Nat.zero_le _, fun j x h => by omega, Keep.refl _⟩ ?_
  rintro i b0 wl ⟨hi, hlt, hk⟩ hback
  have hk' := hk.size
  refine X.seq ?_
  refine X.seq ?_
  refine X.regionD (fun k => wl.heap.size ≤ k) 14 (by kernel_rfl) (by kernel_rfl) (fun w3 hk3 hz3 => ?_)
  refine X.dTake 0 rfl (by kernel_rfl) (by kernel_rfl) (by kernel_rfl) (X.dwN rfl) (fun w' hk' => X.move (v := .int .i64 _) rfl) ?_
  refine X.dTake 1 rfl (by kernel_rfl) (by kernel_rfl) (by kernel_rfl) (X.dwN rfl) (fun w' hk' => X.move (v := .slice _ _ _) rfl) ?_
  refine X.dTake 2 rfl (by kernel_rfl) (by kernel_rfl) (by kernel_rfl) (X.dwN rfl) (fun w' hk' => X.lenSl Tryz.underlying80 rfl) ?_
  refine X.dTake 3 rfl (by kernel_rfl) (by kernel_rfl) (by kernel_rfl) (X.dwN rfl) (fun w' hk' => X.lss rfl rfl) ?_
  refine X.dTake 4 rfl (by kernel_rfl) (by kernel_rfl) (by kernel_rfl) (X.dwN rfl) (fun w' hk' => X.move (v := .bool _) rfl) ?_
  refine X.dFork 14 rfl (fun h14 => ?_) (fun h14 => ?_)
  · have h14' := of_decide_eq_true h14
    obtain ⟨x, hx⟩ := rget i rfl (show i < L.length by omega)
    refine X.dTake 5 rfl (by kernel_rfl) (by kernel_rfl) (by kernel_rfl) (X.dwG rfl rfl rfl) (fun w' hk' => X.move (v := .slice _ _ _) rfl) ?_
    refine X.dTake 6 rfl (by kernel_rfl) (by kernel_rfl) (by kernel_rfl) (X.dwG rfl rfl rfl) (fun w' hk' => X.move (v := .int .i64 _) rfl) ?_
    refine X.dTake 7 rfl (by kernel_rfl) (by kernel_rfl) (by kernel_rfl) (X.dwG rfl rfl rfl) (fun w' hk' => X.idxS (hs9.keep ((hk.trans hk3).step hk' (by intros; (try simp only [] at *); omega))) Tryz.underlying80 Tryz.sizeOf121 rfl rfl ⟨by omega, by omega⟩) ?_
    refine X.dTake 8 rfl (by kernel_rfl) (by kernel_rfl) (by kernel_rfl) (X.dwG rfl rfl rfl) (fun w' hk' => X.fldA Tryz.underlying121 rfl rfl Tryz.sizeOf9) ?_
    refine X.dTake 9 rfl (by kernel_rfl) (by kernel_rfl) (by kernel_rfl) (X.dwG rfl rfl rfl) (fun w' hk' => X.loadSf Tryz.isAgg9 (hs9.keep ((hk.trans hk3).step hk' (by intros; (try simp only [] at *); omega))) hx rfl (fun _ h => by rw [h.1]; rfl)) ?_
    refine X.dTake 10 rfl (by kernel_rfl) (by kernel_rfl) (by kernel_rfl) (X.dwG rfl rfl rfl) (fun w' hk' => X.fldB (j := 0) Tryz.underlying121 rfl rfl Tryz.sizeOf9 rfl) ?_
    refine X.dTake 11 rfl (by kernel_rfl) (by kernel_rfl) (by kernel_rfl) (X.dwG rfl rfl rfl) (fun w' hk' => X.load1B Tryz.isAgg9 (hB9.keep ((hk.trans hk3).step hk' (by intros; (try simp only [] at *); omega))) rfl rfl) ?_
    refine X.dTake 12 rfl (by kernel_rfl) (by kernel_rfl) (by kernel_rfl) (X.dwG rfl rfl rfl) (fun w' hk' => X.ltD rfl rfl) ?_
    refine X.dTake 13 rfl (by kernel_rfl) (by kernel_rfl) (by kernel_rfl) (X.dwN rfl) (fun w' hk' => X.pickT (v := .bool _) rfl rfl) ?_
    refine X.dEnd (by kernel_rfl) ?_
    refine X.condB rfl (fun hc => ?_) (fun hc => ?_)
    · refine X.skip ?_
      refine X.block ?_
      refine X.region ?_
      refine X.opw X.wN rfl (X.move (v := .int .i64 _) rfl) ?_
      refine X.opw X.wN rfl (X.add rfl rfl (X.w_i64 (by omega))) ?_
      refine X.opw X.wN rfl (X.assign (v := .int .i64 _) rfl) ?_
      refine X.opsEnd ?_
      refine X.inBlock ?_
      refine hback (i + 1) _ _ ⟨rfl, rfl, rfl, trivial⟩ ⟨by omega, fun j y hj hy => by
                  rcases Nat.lt_or_ge j i with h | h
                  · exact hlt j y h hy
                  · rw [show j = i by omega, hx] at hy; cases hy; exact hc, (hk.trans hk3)⟩ (by omega)
    · refine X.exit rfl ?_
      refine X.seq ?_
      refine X.regionD (fun k => w3.heap.size ≤ k) 12 (by kernel_rfl) (by kernel_rfl) (fun w4 hk4 hz4 => ?_)
      refine X.dTake 1 rfl (by kernel_rfl) (by kernel_rfl) (by kernel_rfl) (X.dwN rfl) (fun w' hk' => X.move (v := .slice _ _ _) rfl) ?_
      refine X.dTake 2 rfl (by kernel_rfl) (by kernel_rfl) (by kernel_rfl) (X.dwN rfl) (fun w' hk' => X.move (v := .int .i64 _) rfl) ?_
      refine X.dTake 3 rfl (by kernel_rfl) (by kernel_rfl) (by kernel_rfl) (X.dwN rfl) (fun w' hk' => X.cutHr Tryz.underlying80 Tryz.sizeOf121 rfl rfl (by omega)) ?_
      refine X.dTake 5 rfl (by kernel_rfl) (by kernel_rfl) (by kernel_rfl) (X.dwN rfl) (fun w' hk' => X.loadNB Tryz.isAgg121 Tryz.sizeOf121 (hB9.keep (((hk.trans hk3).trans hk4).step hk' (by intros; (try simp only [] at *); omega))) rfl rfl rfl) ?_
      refine X.dTake 8 rfl (by kernel_rfl) (by kernel_rfl) (by kernel_rfl) (X.dwN rfl) (fun w' hk' => X.move (v := .slice _ _ _) rfl) ?_
      refine X.dTake 9 rfl (by kernel_rfl) (by kernel_rfl) (by kernel_rfl) (X.dwN rfl) (fun w' hk' => X.move (v := .int .i64 _) rfl) ?_
      refine X.dTake 10 rfl (by kernel_rfl) (by kernel_rfl) (by kernel_rfl) (X.dwN rfl) (fun w' hk' => X.cutL Tryz.underlying80 Tryz.sizeOf121 rfl rfl (by omega)) ?_
      refine X.dTwo (i := 0) (j := 6) (by kernel_rfl) ?_ ?_
      · refine X.d1E (i := 0) rfl (X.dwN rfl) (X.lit0E (K := KEn) (S := fun k => w4.heap.size ≤ k) Tryz.underlying80 Tryz.sizeOf121 (by intros; (try simp only [] at *); omega)) (by rintro v5 w5 ⟨hM5, hk5, hz5⟩ _; exact hk5.mono (fun _ _ h => h.elim)) ?_
        rintro v5 w5 ⟨hM5, hk5, hz5⟩
        refine X.dTwo (i := 4) (j := 6) (by kernel_rfl) ?_ ?_
        · refine X.d1E (i := 4) rfl (X.dwN rfl) (X.appE (K := KEn) (S := fun k => w4.heap.size ≤ k) KEn_flat Tryz.underlying80 EEn rfl rfl hM5 ((hs9.take _ (by omega)).keep (((hk.trans hk3).trans hk4).trans hk5)) (by (try simp only [List.length_append, List.length_cons, List.length_nil, List.length_take, List.length_drop, List.length_map, List.length_range]); omega) (by intros; (try simp only [] at *); omega)) (by rintro v6 w6 ⟨hM6, hx6⟩ _; exact hx6.mono (fun k _ h => by (try simp only [] at *); omega)) ?_
          rintro v6 w6 ⟨hM6, hx6⟩
          have hx6' := hx6.size
          refine X.dE (i := 6) (by kernel_rfl) rfl (X.dwN rfl) (X.litKF KEn_flat (K := KEn) (xs := [Operand.tmp 31]) (vs := [evEn (nm, k)]) (ys := [(nm, k)]) Tryz.underlying80 Tryz.sizeOf121 Tryz.zeroValue121 rfl rfl rfl rfl rfl (repsEn _)) (by rintro _ w7 ⟨rfl, hs7, hB7, hk7, hz7⟩ _; exact hk7.mono (fun _ _ h => h.elim)) ?_
          rintro _ w7 ⟨rfl, hs7, hB7, hk7, hz7⟩
          refine X.dE (i := 7) (by kernel_rfl) rfl (X.dwN rfl) (X.appE (K := KEn) (S := fun k => w4.heap.size ≤ k) KEn_flat Tryz.underlying80 EEn rfl rfl (Mine.mono (T := fun k => w4.heap.size ≤ k) (hM6.keep hk7) (fun k h1 h2 => by (try simp only [] at *); omega)) hs7 (by (try simp only [List.length_append, List.length_cons, List.length_nil, List.length_take, List.length_drop, List.length_map, List.length_range]); omega) (by intros; (try simp only [] at *); omega)) (by rintro v8 w8 ⟨hM8, hx8⟩ _; exact hx8.mono (fun k _ h => by (try simp only [] at *); omega)) ?_
          rintro v8 w8 ⟨hM8, hx8⟩
          have hx8' := hx8.size
          refine X.dE (i := 11) (by kernel_rfl) rfl (X.dwN rfl) (X.appE (K := KEn) (S := fun k => w4.heap.size ≤ k) KEn_flat Tryz.underlying80 EEn rfl rfl (Mine.mono (T := fun k => w4.heap.size ≤ k) hM8 (fun k h1 h2 => by (try simp only [] at *); omega)) ((hs9.drop _ _ (by omega) (by omega)).keep ((((((hk.trans hk3).trans hk4).trans hk5).step hx6 (by intros; (try simp only [] at *); omega)).trans hk7).step hx8 (by intros; (try simp only [] at *); omega))) (by (try simp only [List.length_append, List.length_cons, List.length_nil, List.length_take, List.length_drop, List.length_map, List.length_range]); omega) (by intros; (try simp only [] at *); omega)) (by rintro v9 w9 ⟨hM9, hx9⟩ _; exact hx9.mono (fun k _ h => by (try simp only [] at *); omega)) ?_
          rintro v9 w9 ⟨hM9, hx9⟩
          have hx9' := hx9.size
          refine X.dStep (i := 12) (by kernel_rfl) rfl (X.dwN rfl) (X.assign rfl) (fun h => absurd h (by decide)) ?_
          refine X.dEnd (by kernel_rfl) ?_
          refine X.ret1 Tryz.func67 Tryz.results67 rfl ?_
          have hcut := cut_at (fun p : ByteArray × Int => sless p.1 nm) (l := L) (k := i) (fun j y hj hy => hlt j y hj hy) (fun y hy => by first | (rw [hx] at hy; cases hy; exact hc) | (rw [List.getElem?_eq_none (by omega)] at hy; cases hy)) (by omega)
          exact ⟨by rw [rwith, ← hL, rins, hcut.1, hcut.2]; exact (hM9).mono (fun q _ h => by (try simp only at h); omega), hkA.trans (((((((hk.trans hk3).trans hk4).trans hk5).step hx6 (by intros; (try simp only [] at *); omega)).trans hk7).step hx8 (by intros; (try simp only [] at *); omega)).step hx9 (by intros; (try simp only [] at *); omega))⟩
        · refine X.d1E (i := 6) rfl (X.dwN rfl) (X.litKF KEn_flat (K := KEn) (xs := [Operand.tmp 31]) (vs := [evEn (nm, k)]) (ys := [(nm, k)]) Tryz.underlying80 Tryz.sizeOf121 Tryz.zeroValue121 rfl rfl rfl rfl rfl (repsEn _)) (by rintro _ w10 ⟨rfl, hs10, hB10, hk10, hz10⟩ _; exact hk10.mono (fun _ _ h => h.elim)) ?_
          rintro _ w10 ⟨rfl, hs10, hB10, hk10, hz10⟩
          refine X.dE (i := 4) (by kernel_rfl) rfl (X.dwN rfl) (X.appE (K := KEn) (S := fun k => w4.heap.size ≤ k ∧ k ≠ w5.heap.size) KEn_flat Tryz.underlying80 EEn rfl rfl ((Mine.mono (T := fun k => w4.heap.size ≤ k ∧ k ≠ w5.heap.size) hM5 (fun k h1 h2 => by (try simp only [] at *); omega)).keep hk10) ((hs9.take _ (by omega)).keep ((((hk.trans hk3).trans hk4).trans hk5).trans hk10)) (by (try simp only [List.length_append, List.length_cons, List.length_nil, List.length_take, List.length_drop, List.length_map, List.length_range]); omega) (by intros; (try simp only [] at *); omega)) (by rintro v11 w11 ⟨hM11, hx11⟩ _; exact hx11.mono (fun k _ h => by (try simp only [] at *); omega)) ?_
          rintro v11 w11 ⟨hM11, hx11⟩
          replace hM11 := Mine.mono (T := fun k => w4.heap.size ≤ k) hM11 (fun k _ h => by (try simp only [] at *); omega)
          have hx11' := hx11.size
          refine X.dE (i := 7) (by kernel_rfl) rfl (X.dwN rfl) (X.appE (K := KEn) (S := fun k => w4.heap.size ≤ k) KEn_flat Tryz.underlying80 EEn rfl rfl (Mine.mono (T := fun k => w4.heap.size ≤ k) hM11 (fun k h1 h2 => by (try simp only [] at *); omega)) (hs10.ext hx11 (by intros; (try simp only []); omega)) (by (try simp only [List.length_append, List.length_cons, List.length_nil, List.length_take, List.length_drop, List.length_map, List.length_range]); omega) (by intros; (try simp only [] at *); omega)) (by rintro v12 w12 ⟨hM12, hx12⟩ _; exact hx12.mono (fun k _ h => by (try simp only [] at *); omega)) ?_
          rintro v12 w12 ⟨hM12, hx12⟩
          have hx12' := hx12.size
          refine X.dE (i := 11) (by kernel_rfl) rfl (X.dwN rfl) (X.appE (K := KEn) (S := fun k => w4.heap.size ≤ k) KEn_flat Tryz.underlying80 EEn rfl rfl (Mine.mono (T := fun k => w4.heap.size ≤ k) hM12 (fun k h1 h2 => by (try simp only [] at *); omega)) ((hs9.drop _ _ (by omega) (by omega)).keep ((((((hk.trans hk3).trans hk4).trans hk5).trans hk10).step hx11 (by intros; (try simp only [] at *); omega)).step hx12 (by intros; (try simp only [] at *); omega))) (by (try simp only [List.length_append, List.length_cons, List.length_nil, List.length_take, List.length_drop, List.length_map, List.length_range]); omega) (by intros; (try simp only [] at *); omega)) (by rintro v13 w13 ⟨hM13, hx13⟩ _; exact hx13.mono (fun k _ h => by (try simp only [] at *); omega)) ?_
          rintro v13 w13 ⟨hM13, hx13⟩
          have hx13' := hx13.size
          refine X.dStep (i := 12) (by kernel_rfl) rfl (X.dwN rfl) (X.assign rfl) (fun h => absurd h (by decide)) ?_
          refine X.dEnd (by kernel_rfl) ?_
          refine X.ret1 Tryz.func67 Tryz.results67 rfl ?_
          have hcut := cut_at (fun p : ByteArray × Int => sless p.1 nm) (l := L) (k := i) (fun j y hj hy => hlt j y hj hy) (fun y hy => by first | (rw [hx] at hy; cases hy; exact hc) | (rw [List.getElem?_eq_none (by omega)] at hy; cases hy)) (by omega)
          exact ⟨by rw [rwith, ← hL, rins, hcut.1, hcut.2]; exact (hM13).mono (fun q _ h => by (try simp only at h); omega), hkA.trans (((((((hk.trans hk3).trans hk4).trans hk5).trans hk10).step hx11 (by intros; (try simp only [] at *); omega)).step hx12 (by intros; (try simp only [] at *); omega)).step hx13 (by intros; (try simp only [] at *); omega))⟩
      · refine X.d1E (i := 6) rfl (X.dwN rfl) (X.litKF KEn_flat (K := KEn) (xs := [Operand.tmp 31]) (vs := [evEn (nm, k)]) (ys := [(nm, k)]) Tryz.underlying80 Tryz.sizeOf121 Tryz.zeroValue121 rfl rfl rfl rfl rfl (repsEn _)) (by rintro _ w14 ⟨rfl, hs14, hB14, hk14, hz14⟩ _; exact hk14.mono (fun _ _ h => h.elim)) ?_
        rintro _ w14 ⟨rfl, hs14, hB14, hk14, hz14⟩
        refine X.dE (i := 0) (by kernel_rfl) rfl (X.dwN rfl) (X.lit0E (K := KEn) (S := fun k => w14.heap.size ≤ k) Tryz.underlying80 Tryz.sizeOf121 (by intros; (try simp only [] at *); omega)) (by rintro v15 w15 ⟨hM15, hk15, hz15⟩ _; exact hk15.mono (fun _ _ h => h.elim)) ?_
        rintro v15 w15 ⟨hM15, hk15, hz15⟩
        refine X.dE (i := 4) (by kernel_rfl) rfl (X.dwN rfl) (X.appE (K := KEn) (S := fun k => w14.heap.size ≤ k) KEn_flat Tryz.underlying80 EEn rfl rfl hM15 ((hs9.take _ (by omega)).keep ((((hk.trans hk3).trans hk4).trans hk14).trans hk15)) (by (try simp only [List.length_append, List.length_cons, List.length_nil, List.length_take, List.length_drop, List.length_map, List.length_range]); omega) (by intros; (try simp only [] at *); omega)) (by rintro v16 w16 ⟨hM16, hx16⟩ _; exact hx16.mono (fun k _ h => by (try simp only [] at *); omega)) ?_
        rintro v16 w16 ⟨hM16, hx16⟩
        have hx16' := hx16.size
        refine X.dE (i := 7) (by kernel_rfl) rfl (X.dwN rfl) (X.appE (K := KEn) (S := fun k => w14.heap.size ≤ k) KEn_flat Tryz.underlying80 EEn rfl rfl (Mine.mono (T := fun k => w14.heap.size ≤ k) hM16 (fun k h1 h2 => by (try simp only [] at *); omega)) (hs14.keep (hk15.step hx16 (by intros; (try simp only [] at *); omega))) (by (try simp only [List.length_append, List.length_cons, List.length_nil, List.length_take, List.length_drop, List.length_map, List.length_range]); omega) (by intros; (try simp only [] at *); omega)) (by rintro v17 w17 ⟨hM17, hx17⟩ _; exact hx17.mono (fun k _ h => by (try simp only [] at *); omega)) ?_
        rintro v17 w17 ⟨hM17, hx17⟩
        have hx17' := hx17.size
        refine X.dE (i := 11) (by kernel_rfl) rfl (X.dwN rfl) (X.appE (K := KEn) (S := fun k => w14.heap.size ≤ k) KEn_flat Tryz.underlying80 EEn rfl rfl (Mine.mono (T := fun k => w14.heap.size ≤ k) hM17 (fun k h1 h2 => by (try simp only [] at *); omega)) ((hs9.drop _ _ (by omega) (by omega)).keep ((((((hk.trans hk3).trans hk4).trans hk14).trans hk15).step hx16 (by intros; (try simp only [] at *); omega)).step hx17 (by intros; (try simp only [] at *); omega))) (by (try simp only [List.length_append, List.length_cons, List.length_nil, List.length_take, List.length_drop, List.length_map, List.length_range]); omega) (by intros; (try simp only [] at *); omega)) (by rintro v18 w18 ⟨hM18, hx18⟩ _; exact hx18.mono (fun k _ h => by (try simp only [] at *); omega)) ?_
        rintro v18 w18 ⟨hM18, hx18⟩
        have hx18' := hx18.size
        refine X.dStep (i := 12) (by kernel_rfl) rfl (X.dwN rfl) (X.assign rfl) (fun h => absurd h (by decide)) ?_
        refine X.dEnd (by kernel_rfl) ?_
        refine X.ret1 Tryz.func67 Tryz.results67 rfl ?_
        have hcut := cut_at (fun p : ByteArray × Int => sless p.1 nm) (l := L) (k := i) (fun j y hj hy => hlt j y hj hy) (fun y hy => by first | (rw [hx] at hy; cases hy; exact hc) | (rw [List.getElem?_eq_none (by omega)] at hy; cases hy)) (by omega)
        exact ⟨by rw [rwith, ← hL, rins, hcut.1, hcut.2]; exact (hM18).mono (fun q _ h => by (try simp only at h); omega), hkA.trans (((((((hk.trans hk3).trans hk4).trans hk14).trans hk15).step hx16 (by intros; (try simp only [] at *); omega)).step hx17 (by intros; (try simp only [] at *); omega)).step hx18 (by intros; (try simp only [] at *); omega))⟩
  · have h14' := of_decide_eq_false h14
    refine X.dTakeS 5 rfl (by kernel_rfl) (by kernel_rfl) (by kernel_rfl) rfl rfl rfl rfl ?_
    refine X.dTakeS 6 rfl (by kernel_rfl) (by kernel_rfl) (by kernel_rfl) rfl rfl rfl rfl ?_
    refine X.dTakeS 7 rfl (by kernel_rfl) (by kernel_rfl) (by kernel_rfl) rfl rfl rfl rfl ?_
    refine X.dTakeS 8 rfl (by kernel_rfl) (by kernel_rfl) (by kernel_rfl) rfl rfl rfl rfl ?_
    refine X.dTakeS 9 rfl (by kernel_rfl) (by kernel_rfl) (by kernel_rfl) rfl rfl rfl rfl ?_
    refine X.dSkip (i := 10) (by kernel_rfl) rfl rfl rfl rfl rfl ?_
    refine X.dSkip (i := 11) (by kernel_rfl) rfl rfl rfl rfl rfl ?_
    refine X.dSkip (i := 12) (by kernel_rfl) rfl rfl rfl rfl rfl ?_
    refine X.dTake 13 rfl (by kernel_rfl) (by kernel_rfl) (by kernel_rfl) (X.dwN rfl) (fun w' hk' => X.pickF (v := .bool false) rfl rfl) ?_
    refine X.dEnd (by kernel_rfl) ?_
    refine X.condF rfl ?_
    refine X.exit rfl ?_
    refine X.seq ?_
    refine X.regionD (fun k => w3.heap.size ≤ k) 12 (by kernel_rfl) (by kernel_rfl) (fun w19 hk19 hz19 => ?_)
    refine X.dTake 1 rfl (by kernel_rfl) (by kernel_rfl) (by kernel_rfl) (X.dwN rfl) (fun w' hk' => X.move (v := .slice _ _ _) rfl) ?_
    refine X.dTake 2 rfl (by kernel_rfl) (by kernel_rfl) (by kernel_rfl) (X.dwN rfl) (fun w' hk' => X.move (v := .int .i64 _) rfl) ?_
    refine X.dTake 3 rfl (by kernel_rfl) (by kernel_rfl) (by kernel_rfl) (X.dwN rfl) (fun w' hk' => X.cutHr Tryz.underlying80 Tryz.sizeOf121 rfl rfl (by omega)) ?_
    refine X.dTake 5 rfl (by kernel_rfl) (by kernel_rfl) (by kernel_rfl) (X.dwN rfl) (fun w' hk' => X.loadNB Tryz.isAgg121 Tryz.sizeOf121 (hB9.keep (((hk.trans hk3).trans hk19).step hk' (by intros; (try simp only [] at *); omega))) rfl rfl rfl) ?_
    refine X.dTake 8 rfl (by kernel_rfl) (by kernel_rfl) (by kernel_rfl) (X.dwN rfl) (fun w' hk' => X.move (v := .slice _ _ _) rfl) ?_
    refine X.dTake 9 rfl (by kernel_rfl) (by kernel_rfl) (by kernel_rfl) (X.dwN rfl) (fun w' hk' => X.move (v := .int .i64 _) rfl) ?_
    refine X.dTake 10 rfl (by kernel_rfl) (by kernel_rfl) (by kernel_rfl) (X.dwN rfl) (fun w' hk' => X.cutL Tryz.underlying80 Tryz.sizeOf121 rfl rfl (by omega)) ?_
    refine X.dTwo (i := 0) (j := 6) (by kernel_rfl) ?_ ?_
    · refine X.d1E (i := 0) rfl (X.dwN rfl) (X.lit0E (K := KEn) (S := fun k => w19.heap.size ≤ k) Tryz.underlying80 Tryz.sizeOf121 (by intros; (try simp only [] at *); omega)) (by rintro v20 w20 ⟨hM20, hk20, hz20⟩ _; exact hk20.mono (fun _ _ h => h.elim)) ?_
      rintro v20 w20 ⟨hM20, hk20, hz20⟩
      refine X.dTwo (i := 4) (j := 6) (by kernel_rfl) ?_ ?_
      · refine X.d1E (i := 4) rfl (X.dwN rfl) (X.appE (K := KEn) (S := fun k => w19.heap.size ≤ k) KEn_flat Tryz.underlying80 EEn rfl rfl hM20 ((hs9.take _ (by omega)).keep (((hk.trans hk3).trans hk19).trans hk20)) (by (try simp only [List.length_append, List.length_cons, List.length_nil, List.length_take, List.length_drop, List.length_map, List.length_range]); omega) (by intros; (try simp only [] at *); omega)) (by rintro v21 w21 ⟨hM21, hx21⟩ _; exact hx21.mono (fun k _ h => by (try simp only [] at *); omega)) ?_
        rintro v21 w21 ⟨hM21, hx21⟩
        have hx21' := hx21.size
        refine X.dE (i := 6) (by kernel_rfl) rfl (X.dwN rfl) (X.litKF KEn_flat (K := KEn) (xs := [Operand.tmp 31]) (vs := [evEn (nm, k)]) (ys := [(nm, k)]) Tryz.underlying80 Tryz.sizeOf121 Tryz.zeroValue121 rfl rfl rfl rfl rfl (repsEn _)) (by rintro _ w22 ⟨rfl, hs22, hB22, hk22, hz22⟩ _; exact hk22.mono (fun _ _ h => h.elim)) ?_
        rintro _ w22 ⟨rfl, hs22, hB22, hk22, hz22⟩
        refine X.dE (i := 7) (by kernel_rfl) rfl (X.dwN rfl) (X.appE (K := KEn) (S := fun k => w19.heap.size ≤ k) KEn_flat Tryz.underlying80 EEn rfl rfl (Mine.mono (T := fun k => w19.heap.size ≤ k) (hM21.keep hk22) (fun k h1 h2 => by (try simp only [] at *); omega)) hs22 (by (try simp only [List.length_append, List.length_cons, List.length_nil, List.length_take, List.length_drop, List.length_map, List.length_range]); omega) (by intros; (try simp only [] at *); omega)) (by rintro v23 w23 ⟨hM23, hx23⟩ _; exact hx23.mono (fun k _ h => by (try simp only [] at *); omega)) ?_
        rintro v23 w23 ⟨hM23, hx23⟩
        have hx23' := hx23.size
        refine X.dE (i := 11) (by kernel_rfl) rfl (X.dwN rfl) (X.appE (K := KEn) (S := fun k => w19.heap.size ≤ k) KEn_flat Tryz.underlying80 EEn rfl rfl (Mine.mono (T := fun k => w19.heap.size ≤ k) hM23 (fun k h1 h2 => by (try simp only [] at *); omega)) ((hs9.drop _ _ (by omega) (by omega)).keep ((((((hk.trans hk3).trans hk19).trans hk20).step hx21 (by intros; (try simp only [] at *); omega)).trans hk22).step hx23 (by intros; (try simp only [] at *); omega))) (by (try simp only [List.length_append, List.length_cons, List.length_nil, List.length_take, List.length_drop, List.length_map, List.length_range]); omega) (by intros; (try simp only [] at *); omega)) (by rintro v24 w24 ⟨hM24, hx24⟩ _; exact hx24.mono (fun k _ h => by (try simp only [] at *); omega)) ?_
        rintro v24 w24 ⟨hM24, hx24⟩
        have hx24' := hx24.size
        refine X.dStep (i := 12) (by kernel_rfl) rfl (X.dwN rfl) (X.assign rfl) (fun h => absurd h (by decide)) ?_
        refine X.dEnd (by kernel_rfl) ?_
        refine X.ret1 Tryz.func67 Tryz.results67 rfl ?_
        have hcut := cut_at (fun p : ByteArray × Int => sless p.1 nm) (l := L) (k := i) (fun j y hj hy => hlt j y hj hy) (fun y hy => by first | (rw [hx] at hy; cases hy; exact hc) | (rw [List.getElem?_eq_none (by omega)] at hy; cases hy)) (by omega)
        exact ⟨by rw [rwith, ← hL, rins, hcut.1, hcut.2]; exact (hM24).mono (fun q _ h => by (try simp only at h); omega), hkA.trans (((((((hk.trans hk3).trans hk19).trans hk20).step hx21 (by intros; (try simp only [] at *); omega)).trans hk22).step hx23 (by intros; (try simp only [] at *); omega)).step hx24 (by intros; (try simp only [] at *); omega))⟩
      · refine X.d1E (i := 6) rfl (X.dwN rfl) (X.litKF KEn_flat (K := KEn) (xs := [Operand.tmp 31]) (vs := [evEn (nm, k)]) (ys := [(nm, k)]) Tryz.underlying80 Tryz.sizeOf121 Tryz.zeroValue121 rfl rfl rfl rfl rfl (repsEn _)) (by rintro _ w25 ⟨rfl, hs25, hB25, hk25, hz25⟩ _; exact hk25.mono (fun _ _ h => h.elim)) ?_
        rintro _ w25 ⟨rfl, hs25, hB25, hk25, hz25⟩
        refine X.dE (i := 4) (by kernel_rfl) rfl (X.dwN rfl) (X.appE (K := KEn) (S := fun k => w19.heap.size ≤ k ∧ k ≠ w20.heap.size) KEn_flat Tryz.underlying80 EEn rfl rfl ((Mine.mono (T := fun k => w19.heap.size ≤ k ∧ k ≠ w20.heap.size) hM20 (fun k h1 h2 => by (try simp only [] at *); omega)).keep hk25) ((hs9.take _ (by omega)).keep ((((hk.trans hk3).trans hk19).trans hk20).trans hk25)) (by (try simp only [List.length_append, List.length_cons, List.length_nil, List.length_take, List.length_drop, List.length_map, List.length_range]); omega) (by intros; (try simp only [] at *); omega)) (by rintro v26 w26 ⟨hM26, hx26⟩ _; exact hx26.mono (fun k _ h => by (try simp only [] at *); omega)) ?_
        rintro v26 w26 ⟨hM26, hx26⟩
        replace hM26 := Mine.mono (T := fun k => w19.heap.size ≤ k) hM26 (fun k _ h => by (try simp only [] at *); omega)
        have hx26' := hx26.size
        refine X.dE (i := 7) (by kernel_rfl) rfl (X.dwN rfl) (X.appE (K := KEn) (S := fun k => w19.heap.size ≤ k) KEn_flat Tryz.underlying80 EEn rfl rfl (Mine.mono (T := fun k => w19.heap.size ≤ k) hM26 (fun k h1 h2 => by (try simp only [] at *); omega)) (hs25.ext hx26 (by intros; (try simp only []); omega)) (by (try simp only [List.length_append, List.length_cons, List.length_nil, List.length_take, List.length_drop, List.length_map, List.length_range]); omega) (by intros; (try simp only [] at *); omega)) (by rintro v27 w27 ⟨hM27, hx27⟩ _; exact hx27.mono (fun k _ h => by (try simp only [] at *); omega)) ?_
        rintro v27 w27 ⟨hM27, hx27⟩
        have hx27' := hx27.size
        refine X.dE (i := 11) (by kernel_rfl) rfl (X.dwN rfl) (X.appE (K := KEn) (S := fun k => w19.heap.size ≤ k) KEn_flat Tryz.underlying80 EEn rfl rfl (Mine.mono (T := fun k => w19.heap.size ≤ k) hM27 (fun k h1 h2 => by (try simp only [] at *); omega)) ((hs9.drop _ _ (by omega) (by omega)).keep ((((((hk.trans hk3).trans hk19).trans hk20).trans hk25).step hx26 (by intros; (try simp only [] at *); omega)).step hx27 (by intros; (try simp only [] at *); omega))) (by (try simp only [List.length_append, List.length_cons, List.length_nil, List.length_take, List.length_drop, List.length_map, List.length_range]); omega) (by intros; (try simp only [] at *); omega)) (by rintro v28 w28 ⟨hM28, hx28⟩ _; exact hx28.mono (fun k _ h => by (try simp only [] at *); omega)) ?_
        rintro v28 w28 ⟨hM28, hx28⟩
        have hx28' := hx28.size
        refine X.dStep (i := 12) (by kernel_rfl) rfl (X.dwN rfl) (X.assign rfl) (fun h => absurd h (by decide)) ?_
        refine X.dEnd (by kernel_rfl) ?_
        refine X.ret1 Tryz.func67 Tryz.results67 rfl ?_
        have hcut := cut_at (fun p : ByteArray × Int => sless p.1 nm) (l := L) (k := i) (fun j y hj hy => hlt j y hj hy) (fun y hy => by first | (rw [hx] at hy; cases hy; exact hc) | (rw [List.getElem?_eq_none (by omega)] at hy; cases hy)) (by omega)
        exact ⟨by rw [rwith, ← hL, rins, hcut.1, hcut.2]; exact (hM28).mono (fun q _ h => by (try simp only at h); omega), hkA.trans (((((((hk.trans hk3).trans hk19).trans hk20).trans hk25).step hx26 (by intros; (try simp only [] at *); omega)).step hx27 (by intros; (try simp only [] at *); omega)).step hx28 (by intros; (try simp only [] at *); omega))⟩
    · refine X.d1E (i := 6) rfl (X.dwN rfl) (X.litKF KEn_flat (K := KEn) (xs := [Operand.tmp 31]) (vs := [evEn (nm, k)]) (ys := [(nm, k)]) Tryz.underlying80 Tryz.sizeOf121 Tryz.zeroValue121 rfl rfl rfl rfl rfl (repsEn _)) (by rintro _ w29 ⟨rfl, hs29, hB29, hk29, hz29⟩ _; exact hk29.mono (fun _ _ h => h.elim)) ?_
      rintro _ w29 ⟨rfl, hs29, hB29, hk29, hz29⟩
      refine X.dE (i := 0) (by kernel_rfl) rfl (X.dwN rfl) (X.lit0E (K := KEn) (S := fun k => w29.heap.size ≤ k) Tryz.underlying80 Tryz.sizeOf121 (by intros; (try simp only [] at *); omega)) (by rintro v30 w30 ⟨hM30, hk30, hz30⟩ _; exact hk30.mono (fun _ _ h => h.elim)) ?_
      rintro v30 w30 ⟨hM30, hk30, hz30⟩
      refine X.dE (i := 4) (by kernel_rfl) rfl (X.dwN rfl) (X.appE (K := KEn) (S := fun k => w29.heap.size ≤ k) KEn_flat Tryz.underlying80 EEn rfl rfl hM30 ((hs9.take _ (by omega)).keep ((((hk.trans hk3).trans hk19).trans hk29).trans hk30)) (by (try simp only [List.length_append, List.length_cons, List.length_nil, List.length_take, List.length_drop, List.length_map, List.length_range]); omega) (by intros; (try simp only [] at *); omega)) (by rintro v31 w31 ⟨hM31, hx31⟩ _; exact hx31.mono (fun k _ h => by (try simp only [] at *); omega)) ?_
      rintro v31 w31 ⟨hM31, hx31⟩
      have hx31' := hx31.size
      refine X.dE (i := 7) (by kernel_rfl) rfl (X.dwN rfl) (X.appE (K := KEn) (S := fun k => w29.heap.size ≤ k) KEn_flat Tryz.underlying80 EEn rfl rfl (Mine.mono (T := fun k => w29.heap.size ≤ k) hM31 (fun k h1 h2 => by (try simp only [] at *); omega)) (hs29.keep (hk30.step hx31 (by intros; (try simp only [] at *); omega))) (by (try simp only [List.length_append, List.length_cons, List.length_nil, List.length_take, List.length_drop, List.length_map, List.length_range]); omega) (by intros; (try simp only [] at *); omega)) (by rintro v32 w32 ⟨hM32, hx32⟩ _; exact hx32.mono (fun k _ h => by (try simp only [] at *); omega)) ?_
      rintro v32 w32 ⟨hM32, hx32⟩
      have hx32' := hx32.size
      refine X.dE (i := 11) (by kernel_rfl) rfl (X.dwN rfl) (X.appE (K := KEn) (S := fun k => w29.heap.size ≤ k) KEn_flat Tryz.underlying80 EEn rfl rfl (Mine.mono (T := fun k => w29.heap.size ≤ k) hM32 (fun k h1 h2 => by (try simp only [] at *); omega)) ((hs9.drop _ _ (by omega) (by omega)).keep ((((((hk.trans hk3).trans hk19).trans hk29).trans hk30).step hx31 (by intros; (try simp only [] at *); omega)).step hx32 (by intros; (try simp only [] at *); omega))) (by (try simp only [List.length_append, List.length_cons, List.length_nil, List.length_take, List.length_drop, List.length_map, List.length_range]); omega) (by intros; (try simp only [] at *); omega)) (by rintro v33 w33 ⟨hM33, hx33⟩ _; exact hx33.mono (fun k _ h => by (try simp only [] at *); omega)) ?_
      rintro v33 w33 ⟨hM33, hx33⟩
      have hx33' := hx33.size
      refine X.dStep (i := 12) (by kernel_rfl) rfl (X.dwN rfl) (X.assign rfl) (fun h => absurd h (by decide)) ?_
      refine X.dEnd (by kernel_rfl) ?_
      refine X.ret1 Tryz.func67 Tryz.results67 rfl ?_
      have hcut := cut_at (fun p : ByteArray × Int => sless p.1 nm) (l := L) (k := i) (fun j y hj hy => hlt j y hj hy) (fun y hy => by first | (rw [hx] at hy; cases hy; exact hc) | (rw [List.getElem?_eq_none (by omega)] at hy; cases hy)) (by omega)
      exact ⟨by rw [rwith, ← hL, rins, hcut.1, hcut.2]; exact (hM33).mono (fun q _ h => by (try simp only at h); omega), hkA.trans (((((((hk.trans hk3).trans hk19).trans hk29).trans hk30).step hx31 (by intros; (try simp only [] at *); omega)).step hx32 (by intros; (try simp only [] at *); omega)).step hx33 (by intros; (try simp only [] at *); omega))⟩
end Go.Proofs.YtcdebnppbnmmgaaGreat

namespace Go.Proofs.YtcdebnppbnmmgaaGreat
open Go Go.Proofs.YtcdebnppbnmmgaaGreat.X
set_option linter.unusedVariables false
set_option linter.unusedSimpArgs false
theorem rrepsI {w : World} (x : Int) (h : -9223372036854775808 ≤ x ∧ x ≤ 9223372036854775807) : RepsV KI w [x] [.int .i64 x] := ⟨⟨_, rfl, rfl, h⟩, trivial⟩
def rapply (c : CHG) (l : DIR) : DIR := (fun l' : DIR => if c.2.1 = ⟨#[]⟩ then l' else rwith (c.2.1, c.2.2) l') (if c.1 = ⟨#[]⟩ then l else rwo c.1 l)
theorem rwo_len (nm : ByteArray) (l : DIR) : (rwo nm l).length ≤ l.length := List.length_filter_le _ _
set_option maxHeartbeats 4000000 in
set_option maxRecDepth 100000 in
theorem put_c {lo hi n c : Nat} {A : Option Addr} {l : List Int} (k : Int) (w : World) (hs : Sl KI lo hi w A n l) (hnc : n ≤ c) (hk : -9223372036854775808 ≤ k ∧ k ≤ 9223372036854775807) (hn : n ≤ 100000) : Ret Tryz.prog 60 #[.slice A n c, .int .i64 k] w fun r w' => (r = .slice A n c ∧ lput k l = l ∨ Mine KI 3 (fun k => w.heap.size ≤ k) 0 0 w' r (lput k l)) ∧ Keep w w' := by
  have hl := hs.len
  refine X.enter Tryz.func60 rfl Tryz.ntmps60 rfl ?_
  refine X.seq ?_
  refine X.region ?_
  refine X.opw X.wN rfl (X.assign rfl) ?_
  refine X.opsEnd ?_
  refine X.seq ?_
  refine X.region ?_
  refine X.opw X.wN rfl (X.assign rfl) ?_
  refine X.opsEnd ?_
  refine X.seq ?_
  refine X.block ?_
  refine X.loopL (σ := Nat) (fun s => [(0, .slice A n c), (1, .int .i64 k), (5, .int .i64 (s : Int))]) (fun s w' => s ≤ n ∧ (∀ j x, j < s → l[j]? = some x → decide (x < k) = true) ∧ Keep w w') (fun s => n - s) 0 ⟨rfl, rfl, rfl, trivial⟩ ⟨Nat.zero_le _, fun j x h => by omega, (Keep.refl _)⟩ ?_
  rintro i b0 wl ⟨hi, hlt, hkl⟩ hback
  have hkl' := hkl.size
  refine X.seq ?_
  refine X.seq ?_
  refine X.region ?_
  refine X.opw X.wN rfl (X.move (v := .int .i64 _) rfl) ?_
  refine X.opw X.wN rfl (X.move (v := .slice _ _ _) rfl) ?_
  refine X.opw X.wN rfl (X.lenSl Tryz.underlying95 rfl) ?_
  refine X.opP X.wN rfl rfl (X.lss rfl rfl) (fun h9 => ?_) (fun h9 => ?_)
  · obtain ⟨x, hx⟩ := rget i hl (by omega)
    refine X.opw X.wN rfl (X.move (v := .bool true) rfl) ?_
    refine X.opw (X.wG rfl rfl rfl) rfl (X.move (v := .slice _ _ _) rfl) ?_
    refine X.opw (X.wG rfl rfl rfl) rfl (X.move (v := .int .i64 _) rfl) ?_
    refine X.opw (X.wG rfl rfl rfl) rfl (X.idxS (hs.keep hkl) Tryz.underlying95 Tryz.sizeOf3 rfl rfl ⟨by omega, by omega⟩) ?_
    refine X.opw (X.wG rfl rfl rfl) rfl (X.loadS Tryz.isAgg3 (hs.keep hkl) hx rfl (fun _ h => by rw [h.1]; rfl)) ?_
    refine X.opw (X.wG rfl rfl rfl) rfl (X.move (v := .int .i64 _) rfl) ?_
    refine X.opP (X.wG rfl rfl rfl) rfl rfl (X.lss rfl rfl) (fun h16 => ?_) (fun h16 => ?_)
    · refine X.opw X.wN rfl (X.pickT (v := .bool true) rfl rfl) ?_
      refine X.opsEnd ?_
      refine X.condT rfl ?_
      refine X.skip ?_
      refine X.block ?_
      refine X.region ?_
      refine X.opw X.wN rfl (X.move (v := .int .i64 _) rfl) ?_
      refine X.opw X.wN rfl (X.add rfl rfl (X.w_i64 (by omega))) ?_
      refine X.opw X.wN rfl (X.assign (v := .int .i64 _) rfl) ?_
      refine X.opsEnd ?_
      refine X.inBlock ?_
      refine hback (i + 1) _ _ ⟨rfl, rfl, rfl, trivial⟩ ⟨by omega, fun j y hj hy => by
                  rcases Nat.lt_or_ge j i with h | h
                  · exact hlt j y h hy
                  · rw [show j = i by omega, hx] at hy; cases hy; exact decide_eq_true h16, hkl⟩ (by omega)
    · refine X.opw X.wN rfl (X.pickT (v := .bool false) rfl rfl) ?_
      refine X.opsEnd ?_
      refine X.condF rfl ?_
      refine X.exit rfl ?_
      refine X.seq ?_
      refine X.seq ?_
      refine X.region ?_
      refine X.opw X.wN rfl (X.move (v := .int .i64 _) rfl) ?_
      refine X.opw X.wN rfl (X.move (v := .slice _ _ _) rfl) ?_
      refine X.opw X.wN rfl (X.lenSl Tryz.underlying95 rfl) ?_
      refine X.opP X.wN rfl rfl (X.lss rfl rfl) (fun h23 => ?_) (fun h23 => ?_)
      · 
        refine X.opw X.wN rfl (X.move (v := .bool true) rfl) ?_
        refine X.opw (X.wG rfl rfl rfl) rfl (X.move (v := .slice _ _ _) rfl) ?_
        refine X.opw (X.wG rfl rfl rfl) rfl (X.move (v := .int .i64 _) rfl) ?_
        refine X.opw (X.wG rfl rfl rfl) rfl (X.idxS (hs.keep hkl) Tryz.underlying95 Tryz.sizeOf3 rfl rfl ⟨by omega, by omega⟩) ?_
        refine X.opw (X.wG rfl rfl rfl) rfl (X.loadS Tryz.isAgg3 (hs.keep hkl) hx rfl (fun _ h => by rw [h.1]; rfl)) ?_
        refine X.opw (X.wG rfl rfl rfl) rfl (X.move (v := .int .i64 _) rfl) ?_
        refine X.opP (X.wG rfl rfl rfl) rfl rfl (X.eqI rfl rfl) (fun h30 => ?_) (fun h30 => ?_)
        · refine X.opw X.wN rfl (X.pickT (v := .bool true) rfl rfl) ?_
          refine X.opsEnd ?_
          refine X.condT rfl ?_
          refine X.seq ?_
          refine X.region ?_
          refine X.opw X.wN rfl (X.move (v := .slice _ _ _) rfl) ?_
          refine X.opw X.wN rfl (X.assign (v := .slice _ _ _) rfl) ?_
          refine X.opsEnd ?_
          refine X.ret1 Tryz.func60 Tryz.results60 rfl ?_
          have hcut := cut_at (fun x : Int => decide (x < k)) (l := l) (k := i) (fun j y hj hy => hlt j y hj hy) (fun y hy => by first | (rw [hx] at hy; cases hy; exact decide_eq_false h16) | (rw [List.getElem?_eq_none (by omega)] at hy; cases hy)) (by omega)
          exact ⟨.inl ⟨rfl, by rw [lput, if_pos (by rw [hcut.2, List.head?_drop, hx, h30])]⟩, hkl⟩
        · refine X.opw X.wN rfl (X.pickT (v := .bool false) rfl rfl) ?_
          refine X.opsEnd ?_
          refine X.condF rfl ?_
          refine X.skip ?_
          refine X.seq ?_
          refine X.regionD (fun k => wl.heap.size ≤ k) 12 (by kernel_rfl) (by kernel_rfl) (fun w1 hk1 hz1 => ?_)
          refine X.dTake 1 rfl (by kernel_rfl) (by kernel_rfl) (by kernel_rfl) (X.dwN rfl) (fun w' hk' => X.move (v := .slice _ _ _) rfl) ?_
          refine X.dTake 2 rfl (by kernel_rfl) (by kernel_rfl) (by kernel_rfl) (X.dwN rfl) (fun w' hk' => X.move (v := .int .i64 _) rfl) ?_
          refine X.dTake 3 rfl (by kernel_rfl) (by kernel_rfl) (by kernel_rfl) (X.dwN rfl) (fun w' hk' => X.cutHr Tryz.underlying95 Tryz.sizeOf3 rfl rfl (by omega)) ?_
          refine X.dTake 5 rfl (by kernel_rfl) (by kernel_rfl) (by kernel_rfl) (X.dwN rfl) (fun w' hk' => X.move (v := .int .i64 _) rfl) ?_
          refine X.dTake 8 rfl (by kernel_rfl) (by kernel_rfl) (by kernel_rfl) (X.dwN rfl) (fun w' hk' => X.move (v := .slice _ _ _) rfl) ?_
          refine X.dTake 9 rfl (by kernel_rfl) (by kernel_rfl) (by kernel_rfl) (X.dwN rfl) (fun w' hk' => X.move (v := .int .i64 _) rfl) ?_
          refine X.dTake 10 rfl (by kernel_rfl) (by kernel_rfl) (by kernel_rfl) (X.dwN rfl) (fun w' hk' => X.cutL Tryz.underlying95 Tryz.sizeOf3 rfl rfl (by omega)) ?_
          refine X.dTwo (i := 0) (j := 6) (by kernel_rfl) ?_ ?_
          · refine X.d1E (i := 0) rfl (X.dwN rfl) (X.lit0E (K := KI) (S := fun k => w1.heap.size ≤ k) Tryz.underlying95 Tryz.sizeOf3 (by intros; (try simp only [] at *); omega)) (by rintro v2 w2 ⟨hM2, hk2, hz2⟩ _; exact hk2.mono (fun _ _ h => h.elim)) ?_
            rintro v2 w2 ⟨hM2, hk2, hz2⟩
            refine X.dTwo (i := 4) (j := 6) (by kernel_rfl) ?_ ?_
            · refine X.d1E (i := 4) rfl (X.dwN rfl) (X.appE (K := KI) (S := fun k => w1.heap.size ≤ k) KI_flat Tryz.underlying95 EIr rfl rfl hM2 ((hs.take _ (by omega)).keep ((hkl.trans hk1).trans hk2)) (by (try simp only [List.length_append, List.length_cons, List.length_nil, List.length_take, List.length_drop, List.length_map, List.length_range]); omega) (by intros; (try simp only [] at *); omega)) (by rintro v3 w3 ⟨hM3, hx3⟩ _; exact hx3.mono (fun k _ h => by (try simp only [] at *); omega)) ?_
              rintro v3 w3 ⟨hM3, hx3⟩
              have hx3' := hx3.size
              refine X.dE (i := 6) (by kernel_rfl) rfl (X.dwN rfl) (X.litKF KI_flat (K := KI) (xs := [Operand.tmp 38]) (vs := [.int .i64 k]) (ys := [k]) Tryz.underlying95 Tryz.sizeOf3 Tryz.zeroValue3 rfl rfl rfl rfl rfl (rrepsI k (by omega))) (by rintro _ w4 ⟨rfl, hs4, hB4, hk4, hz4⟩ _; exact hk4.mono (fun _ _ h => h.elim)) ?_
              rintro _ w4 ⟨rfl, hs4, hB4, hk4, hz4⟩
              refine X.dE (i := 7) (by kernel_rfl) rfl (X.dwN rfl) (X.appE (K := KI) (S := fun k => w1.heap.size ≤ k) KI_flat Tryz.underlying95 EIr rfl rfl (Mine.mono (T := fun k => w1.heap.size ≤ k) (hM3.keep hk4) (fun k h1 h2 => by (try simp only [] at *); omega)) hs4 (by (try simp only [List.length_append, List.length_cons, List.length_nil, List.length_take, List.length_drop, List.length_map, List.length_range]); omega) (by intros; (try simp only [] at *); omega)) (by rintro v5 w5 ⟨hM5, hx5⟩ _; exact hx5.mono (fun k _ h => by (try simp only [] at *); omega)) ?_
              rintro v5 w5 ⟨hM5, hx5⟩
              have hx5' := hx5.size
              refine X.dE (i := 11) (by kernel_rfl) rfl (X.dwN rfl) (X.appE (K := KI) (S := fun k => w1.heap.size ≤ k) KI_flat Tryz.underlying95 EIr rfl rfl (Mine.mono (T := fun k => w1.heap.size ≤ k) hM5 (fun k h1 h2 => by (try simp only [] at *); omega)) ((hs.drop _ _ (by omega) (by omega)).keep (((((hkl.trans hk1).trans hk2).step hx3 (by intros; (try simp only [] at *); omega)).trans hk4).step hx5 (by intros; (try simp only [] at *); omega))) (by (try simp only [List.length_append, List.length_cons, List.length_nil, List.length_take, List.length_drop, List.length_map, List.length_range]); omega) (by intros; (try simp only [] at *); omega)) (by rintro v6 w6 ⟨hM6, hx6⟩ _; exact hx6.mono (fun k _ h => by (try simp only [] at *); omega)) ?_
              rintro v6 w6 ⟨hM6, hx6⟩
              have hx6' := hx6.size
              refine X.dStep (i := 12) (by kernel_rfl) rfl (X.dwN rfl) (X.assign rfl) (fun h => absurd h (by decide)) ?_
              refine X.dEnd (by kernel_rfl) ?_
              refine X.ret1 Tryz.func60 Tryz.results60 rfl ?_
              have hcut := cut_at (fun x : Int => decide (x < k)) (l := l) (k := i) (fun j y hj hy => hlt j y hj hy) (fun y hy => by first | (rw [hx] at hy; cases hy; exact decide_eq_false h16) | (rw [List.getElem?_eq_none (by omega)] at hy; cases hy)) (by omega)
              have hne : ¬ (l.dropWhile fun x : Int => decide (x < k)).head? = some k := by
                rw [hcut.2, List.head?_drop]
                first | (rw [hx]; intro e; injection e with e; exact h30 e) | (rw [List.getElem?_eq_none (by omega)]; simp)
              have he : lput k l = l.take i ++ [k] ++ l.drop i := by rw [lput, if_neg hne, hcut.1, hcut.2]
              exact ⟨.inr (by rw [he]; exact (hM6).mono (fun q _ h => by (try simp only at h); omega)), ((((((hkl.trans hk1).trans hk2).step hx3 (by intros; (try simp only [] at *); omega)).trans hk4).step hx5 (by intros; (try simp only [] at *); omega)).step hx6 (by intros; (try simp only [] at *); omega))⟩
            · refine X.d1E (i := 6) rfl (X.dwN rfl) (X.litKF KI_flat (K := KI) (xs := [Operand.tmp 38]) (vs := [.int .i64 k]) (ys := [k]) Tryz.underlying95 Tryz.sizeOf3 Tryz.zeroValue3 rfl rfl rfl rfl rfl (rrepsI k (by omega))) (by rintro _ w7 ⟨rfl, hs7, hB7, hk7, hz7⟩ _; exact hk7.mono (fun _ _ h => h.elim)) ?_
              rintro _ w7 ⟨rfl, hs7, hB7, hk7, hz7⟩
              refine X.dE (i := 4) (by kernel_rfl) rfl (X.dwN rfl) (X.appE (K := KI) (S := fun k => w1.heap.size ≤ k ∧ k ≠ w2.heap.size) KI_flat Tryz.underlying95 EIr rfl rfl ((Mine.mono (T := fun k => w1.heap.size ≤ k ∧ k ≠ w2.heap.size) hM2 (fun k h1 h2 => by (try simp only [] at *); omega)).keep hk7) ((hs.take _ (by omega)).keep (((hkl.trans hk1).trans hk2).trans hk7)) (by (try simp only [List.length_append, List.length_cons, List.length_nil, List.length_take, List.length_drop, List.length_map, List.length_range]); omega) (by intros; (try simp only [] at *); omega)) (by rintro v8 w8 ⟨hM8, hx8⟩ _; exact hx8.mono (fun k _ h => by (try simp only [] at *); omega)) ?_
              rintro v8 w8 ⟨hM8, hx8⟩
              replace hM8 := Mine.mono (T := fun k => w1.heap.size ≤ k) hM8 (fun k _ h => by (try simp only [] at *); omega)
              have hx8' := hx8.size
              refine X.dE (i := 7) (by kernel_rfl) rfl (X.dwN rfl) (X.appE (K := KI) (S := fun k => w1.heap.size ≤ k) KI_flat Tryz.underlying95 EIr rfl rfl (Mine.mono (T := fun k => w1.heap.size ≤ k) hM8 (fun k h1 h2 => by (try simp only [] at *); omega)) (hs7.ext hx8 (by intros; (try simp only []); omega)) (by (try simp only [List.length_append, List.length_cons, List.length_nil, List.length_take, List.length_drop, List.length_map, List.length_range]); omega) (by intros; (try simp only [] at *); omega)) (by rintro v9 w9 ⟨hM9, hx9⟩ _; exact hx9.mono (fun k _ h => by (try simp only [] at *); omega)) ?_
              rintro v9 w9 ⟨hM9, hx9⟩
              have hx9' := hx9.size
              refine X.dE (i := 11) (by kernel_rfl) rfl (X.dwN rfl) (X.appE (K := KI) (S := fun k => w1.heap.size ≤ k) KI_flat Tryz.underlying95 EIr rfl rfl (Mine.mono (T := fun k => w1.heap.size ≤ k) hM9 (fun k h1 h2 => by (try simp only [] at *); omega)) ((hs.drop _ _ (by omega) (by omega)).keep (((((hkl.trans hk1).trans hk2).trans hk7).step hx8 (by intros; (try simp only [] at *); omega)).step hx9 (by intros; (try simp only [] at *); omega))) (by (try simp only [List.length_append, List.length_cons, List.length_nil, List.length_take, List.length_drop, List.length_map, List.length_range]); omega) (by intros; (try simp only [] at *); omega)) (by rintro v10 w10 ⟨hM10, hx10⟩ _; exact hx10.mono (fun k _ h => by (try simp only [] at *); omega)) ?_
              rintro v10 w10 ⟨hM10, hx10⟩
              have hx10' := hx10.size
              refine X.dStep (i := 12) (by kernel_rfl) rfl (X.dwN rfl) (X.assign rfl) (fun h => absurd h (by decide)) ?_
              refine X.dEnd (by kernel_rfl) ?_
              refine X.ret1 Tryz.func60 Tryz.results60 rfl ?_
              have hcut := cut_at (fun x : Int => decide (x < k)) (l := l) (k := i) (fun j y hj hy => hlt j y hj hy) (fun y hy => by first | (rw [hx] at hy; cases hy; exact decide_eq_false h16) | (rw [List.getElem?_eq_none (by omega)] at hy; cases hy)) (by omega)
              have hne : ¬ (l.dropWhile fun x : Int => decide (x < k)).head? = some k := by
                rw [hcut.2, List.head?_drop]
                first | (rw [hx]; intro e; injection e with e; exact h30 e) | (rw [List.getElem?_eq_none (by omega)]; simp)
              have he : lput k l = l.take i ++ [k] ++ l.drop i := by rw [lput, if_neg hne, hcut.1, hcut.2]
              exact ⟨.inr (by rw [he]; exact (hM10).mono (fun q _ h => by (try simp only at h); omega)), ((((((hkl.trans hk1).trans hk2).trans hk7).step hx8 (by intros; (try simp only [] at *); omega)).step hx9 (by intros; (try simp only [] at *); omega)).step hx10 (by intros; (try simp only [] at *); omega))⟩
          · refine X.d1E (i := 6) rfl (X.dwN rfl) (X.litKF KI_flat (K := KI) (xs := [Operand.tmp 38]) (vs := [.int .i64 k]) (ys := [k]) Tryz.underlying95 Tryz.sizeOf3 Tryz.zeroValue3 rfl rfl rfl rfl rfl (rrepsI k (by omega))) (by rintro _ w11 ⟨rfl, hs11, hB11, hk11, hz11⟩ _; exact hk11.mono (fun _ _ h => h.elim)) ?_
            rintro _ w11 ⟨rfl, hs11, hB11, hk11, hz11⟩
            refine X.dE (i := 0) (by kernel_rfl) rfl (X.dwN rfl) (X.lit0E (K := KI) (S := fun k => w11.heap.size ≤ k) Tryz.underlying95 Tryz.sizeOf3 (by intros; (try simp only [] at *); omega)) (by rintro v12 w12 ⟨hM12, hk12, hz12⟩ _; exact hk12.mono (fun _ _ h => h.elim)) ?_
            rintro v12 w12 ⟨hM12, hk12, hz12⟩
            refine X.dE (i := 4) (by kernel_rfl) rfl (X.dwN rfl) (X.appE (K := KI) (S := fun k => w11.heap.size ≤ k) KI_flat Tryz.underlying95 EIr rfl rfl hM12 ((hs.take _ (by omega)).keep (((hkl.trans hk1).trans hk11).trans hk12)) (by (try simp only [List.length_append, List.length_cons, List.length_nil, List.length_take, List.length_drop, List.length_map, List.length_range]); omega) (by intros; (try simp only [] at *); omega)) (by rintro v13 w13 ⟨hM13, hx13⟩ _; exact hx13.mono (fun k _ h => by (try simp only [] at *); omega)) ?_
            rintro v13 w13 ⟨hM13, hx13⟩
            have hx13' := hx13.size
            refine X.dE (i := 7) (by kernel_rfl) rfl (X.dwN rfl) (X.appE (K := KI) (S := fun k => w11.heap.size ≤ k) KI_flat Tryz.underlying95 EIr rfl rfl (Mine.mono (T := fun k => w11.heap.size ≤ k) hM13 (fun k h1 h2 => by (try simp only [] at *); omega)) (hs11.keep (hk12.step hx13 (by intros; (try simp only [] at *); omega))) (by (try simp only [List.length_append, List.length_cons, List.length_nil, List.length_take, List.length_drop, List.length_map, List.length_range]); omega) (by intros; (try simp only [] at *); omega)) (by rintro v14 w14 ⟨hM14, hx14⟩ _; exact hx14.mono (fun k _ h => by (try simp only [] at *); omega)) ?_
            rintro v14 w14 ⟨hM14, hx14⟩
            have hx14' := hx14.size
            refine X.dE (i := 11) (by kernel_rfl) rfl (X.dwN rfl) (X.appE (K := KI) (S := fun k => w11.heap.size ≤ k) KI_flat Tryz.underlying95 EIr rfl rfl (Mine.mono (T := fun k => w11.heap.size ≤ k) hM14 (fun k h1 h2 => by (try simp only [] at *); omega)) ((hs.drop _ _ (by omega) (by omega)).keep (((((hkl.trans hk1).trans hk11).trans hk12).step hx13 (by intros; (try simp only [] at *); omega)).step hx14 (by intros; (try simp only [] at *); omega))) (by (try simp only [List.length_append, List.length_cons, List.length_nil, List.length_take, List.length_drop, List.length_map, List.length_range]); omega) (by intros; (try simp only [] at *); omega)) (by rintro v15 w15 ⟨hM15, hx15⟩ _; exact hx15.mono (fun k _ h => by (try simp only [] at *); omega)) ?_
            rintro v15 w15 ⟨hM15, hx15⟩
            have hx15' := hx15.size
            refine X.dStep (i := 12) (by kernel_rfl) rfl (X.dwN rfl) (X.assign rfl) (fun h => absurd h (by decide)) ?_
            refine X.dEnd (by kernel_rfl) ?_
            refine X.ret1 Tryz.func60 Tryz.results60 rfl ?_
            have hcut := cut_at (fun x : Int => decide (x < k)) (l := l) (k := i) (fun j y hj hy => hlt j y hj hy) (fun y hy => by first | (rw [hx] at hy; cases hy; exact decide_eq_false h16) | (rw [List.getElem?_eq_none (by omega)] at hy; cases hy)) (by omega)
            have hne : ¬ (l.dropWhile fun x : Int => decide (x < k)).head? = some k := by
              rw [hcut.2, List.head?_drop]
              first | (rw [hx]; intro e; injection e with e; exact h30 e) | (rw [List.getElem?_eq_none (by omega)]; simp)
            have he : lput k l = l.take i ++ [k] ++ l.drop i := by rw [lput, if_neg hne, hcut.1, hcut.2]
            exact ⟨.inr (by rw [he]; exact (hM15).mono (fun q _ h => by (try simp only at h); omega)), ((((((hkl.trans hk1).trans hk11).trans hk12).step hx13 (by intros; (try simp only [] at *); omega)).step hx14 (by intros; (try simp only [] at *); omega)).step hx15 (by intros; (try simp only [] at *); omega))⟩
      · exact absurd (show (i : Int) < (n : Int) by omega) h23
  · refine X.opw X.wN rfl (X.move (v := .bool false) rfl) ?_
    refine X.opS rfl rfl rfl rfl rfl ?_
    refine X.opS rfl rfl rfl rfl rfl ?_
    refine X.opS rfl rfl rfl rfl rfl ?_
    refine X.opS rfl rfl rfl rfl rfl ?_
    refine X.opS rfl rfl rfl rfl rfl ?_
    refine X.opS rfl rfl rfl rfl rfl ?_
    refine X.opw X.wN rfl (X.pickF (v := .bool false) rfl rfl) ?_
    refine X.opsEnd ?_
    refine X.condF rfl ?_
    refine X.exit rfl ?_
    refine X.seq ?_
    refine X.seq ?_
    refine X.region ?_
    refine X.opw X.wN rfl (X.move (v := .int .i64 _) rfl) ?_
    refine X.opw X.wN rfl (X.move (v := .slice _ _ _) rfl) ?_
    refine X.opw X.wN rfl (X.lenSl Tryz.underlying95 rfl) ?_
    refine X.opP X.wN rfl rfl (X.lss rfl rfl) (fun h23 => ?_) (fun h23 => ?_)
    · exact absurd h23 (by omega)
    · 
      refine X.opw X.wN rfl (X.move (v := .bool false) rfl) ?_
      refine X.opS rfl rfl rfl rfl rfl ?_
      refine X.opS rfl rfl rfl rfl rfl ?_
      refine X.opS rfl rfl rfl rfl rfl ?_
      refine X.opS rfl rfl rfl rfl rfl ?_
      refine X.opS rfl rfl rfl rfl rfl ?_
      refine X.opS rfl rfl rfl rfl rfl ?_
      refine X.opw X.wN rfl (X.pickF (v := .bool false) rfl rfl) ?_
      refine X.opsEnd ?_
      refine X.condF rfl ?_
      refine X.skip ?_
      refine X.seq ?_
      refine X.regionD (fun k => wl.heap.size ≤ k) 12 (by kernel_rfl) (by kernel_rfl) (fun w16 hk16 hz16 => ?_)
      refine X.dTake 1 rfl (by kernel_rfl) (by kernel_rfl) (by kernel_rfl) (X.dwN rfl) (fun w' hk' => X.move (v := .slice _ _ _) rfl) ?_
      refine X.dTake 2 rfl (by kernel_rfl) (by kernel_rfl) (by kernel_rfl) (X.dwN rfl) (fun w' hk' => X.move (v := .int .i64 _) rfl) ?_
      refine X.dTake 3 rfl (by kernel_rfl) (by kernel_rfl) (by kernel_rfl) (X.dwN rfl) (fun w' hk' => X.cutHr Tryz.underlying95 Tryz.sizeOf3 rfl rfl (by omega)) ?_
      refine X.dTake 5 rfl (by kernel_rfl) (by kernel_rfl) (by kernel_rfl) (X.dwN rfl) (fun w' hk' => X.move (v := .int .i64 _) rfl) ?_
      refine X.dTake 8 rfl (by kernel_rfl) (by kernel_rfl) (by kernel_rfl) (X.dwN rfl) (fun w' hk' => X.move (v := .slice _ _ _) rfl) ?_
      refine X.dTake 9 rfl (by kernel_rfl) (by kernel_rfl) (by kernel_rfl) (X.dwN rfl) (fun w' hk' => X.move (v := .int .i64 _) rfl) ?_
      refine X.dTake 10 rfl (by kernel_rfl) (by kernel_rfl) (by kernel_rfl) (X.dwN rfl) (fun w' hk' => X.cutL Tryz.underlying95 Tryz.sizeOf3 rfl rfl (by omega)) ?_
      refine X.dTwo (i := 0) (j := 6) (by kernel_rfl) ?_ ?_
      · refine X.d1E (i := 0) rfl (X.dwN rfl) (X.lit0E (K := KI) (S := fun k => w16.heap.size ≤ k) Tryz.underlying95 Tryz.sizeOf3 (by intros; (try simp only [] at *); omega)) (by rintro v17 w17 ⟨hM17, hk17, hz17⟩ _; exact hk17.mono (fun _ _ h => h.elim)) ?_
        rintro v17 w17 ⟨hM17, hk17, hz17⟩
        refine X.dTwo (i := 4) (j := 6) (by kernel_rfl) ?_ ?_
        · refine X.d1E (i := 4) rfl (X.dwN rfl) (X.appE (K := KI) (S := fun k => w16.heap.size ≤ k) KI_flat Tryz.underlying95 EIr rfl rfl hM17 ((hs.take _ (by omega)).keep ((hkl.trans hk16).trans hk17)) (by (try simp only [List.length_append, List.length_cons, List.length_nil, List.length_take, List.length_drop, List.length_map, List.length_range]); omega) (by intros; (try simp only [] at *); omega)) (by rintro v18 w18 ⟨hM18, hx18⟩ _; exact hx18.mono (fun k _ h => by (try simp only [] at *); omega)) ?_
          rintro v18 w18 ⟨hM18, hx18⟩
          have hx18' := hx18.size
          refine X.dE (i := 6) (by kernel_rfl) rfl (X.dwN rfl) (X.litKF KI_flat (K := KI) (xs := [Operand.tmp 38]) (vs := [.int .i64 k]) (ys := [k]) Tryz.underlying95 Tryz.sizeOf3 Tryz.zeroValue3 rfl rfl rfl rfl rfl (rrepsI k (by omega))) (by rintro _ w19 ⟨rfl, hs19, hB19, hk19, hz19⟩ _; exact hk19.mono (fun _ _ h => h.elim)) ?_
          rintro _ w19 ⟨rfl, hs19, hB19, hk19, hz19⟩
          refine X.dE (i := 7) (by kernel_rfl) rfl (X.dwN rfl) (X.appE (K := KI) (S := fun k => w16.heap.size ≤ k) KI_flat Tryz.underlying95 EIr rfl rfl (Mine.mono (T := fun k => w16.heap.size ≤ k) (hM18.keep hk19) (fun k h1 h2 => by (try simp only [] at *); omega)) hs19 (by (try simp only [List.length_append, List.length_cons, List.length_nil, List.length_take, List.length_drop, List.length_map, List.length_range]); omega) (by intros; (try simp only [] at *); omega)) (by rintro v20 w20 ⟨hM20, hx20⟩ _; exact hx20.mono (fun k _ h => by (try simp only [] at *); omega)) ?_
          rintro v20 w20 ⟨hM20, hx20⟩
          have hx20' := hx20.size
          refine X.dE (i := 11) (by kernel_rfl) rfl (X.dwN rfl) (X.appE (K := KI) (S := fun k => w16.heap.size ≤ k) KI_flat Tryz.underlying95 EIr rfl rfl (Mine.mono (T := fun k => w16.heap.size ≤ k) hM20 (fun k h1 h2 => by (try simp only [] at *); omega)) ((hs.drop _ _ (by omega) (by omega)).keep (((((hkl.trans hk16).trans hk17).step hx18 (by intros; (try simp only [] at *); omega)).trans hk19).step hx20 (by intros; (try simp only [] at *); omega))) (by (try simp only [List.length_append, List.length_cons, List.length_nil, List.length_take, List.length_drop, List.length_map, List.length_range]); omega) (by intros; (try simp only [] at *); omega)) (by rintro v21 w21 ⟨hM21, hx21⟩ _; exact hx21.mono (fun k _ h => by (try simp only [] at *); omega)) ?_
          rintro v21 w21 ⟨hM21, hx21⟩
          have hx21' := hx21.size
          refine X.dStep (i := 12) (by kernel_rfl) rfl (X.dwN rfl) (X.assign rfl) (fun h => absurd h (by decide)) ?_
          refine X.dEnd (by kernel_rfl) ?_
          refine X.ret1 Tryz.func60 Tryz.results60 rfl ?_
          have hcut := cut_at (fun x : Int => decide (x < k)) (l := l) (k := i) (fun j y hj hy => hlt j y hj hy) (fun y hy => by first | (rw [hx] at hy; cases hy; exact decide_eq_false h16) | (rw [List.getElem?_eq_none (by omega)] at hy; cases hy)) (by omega)
          have hne : ¬ (l.dropWhile fun x : Int => decide (x < k)).head? = some k := by
            rw [hcut.2, List.head?_drop]
            first | (rw [hx]; intro e; injection e with e; exact h30 e) | (rw [List.getElem?_eq_none (by omega)]; simp)
          have he : lput k l = l.take i ++ [k] ++ l.drop i := by rw [lput, if_neg hne, hcut.1, hcut.2]
          exact ⟨.inr (by rw [he]; exact (hM21).mono (fun q _ h => by (try simp only at h); omega)), ((((((hkl.trans hk16).trans hk17).step hx18 (by intros; (try simp only [] at *); omega)).trans hk19).step hx20 (by intros; (try simp only [] at *); omega)).step hx21 (by intros; (try simp only [] at *); omega))⟩
        · refine X.d1E (i := 6) rfl (X.dwN rfl) (X.litKF KI_flat (K := KI) (xs := [Operand.tmp 38]) (vs := [.int .i64 k]) (ys := [k]) Tryz.underlying95 Tryz.sizeOf3 Tryz.zeroValue3 rfl rfl rfl rfl rfl (rrepsI k (by omega))) (by rintro _ w22 ⟨rfl, hs22, hB22, hk22, hz22⟩ _; exact hk22.mono (fun _ _ h => h.elim)) ?_
          rintro _ w22 ⟨rfl, hs22, hB22, hk22, hz22⟩
          refine X.dE (i := 4) (by kernel_rfl) rfl (X.dwN rfl) (X.appE (K := KI) (S := fun k => w16.heap.size ≤ k ∧ k ≠ w17.heap.size) KI_flat Tryz.underlying95 EIr rfl rfl ((Mine.mono (T := fun k => w16.heap.size ≤ k ∧ k ≠ w17.heap.size) hM17 (fun k h1 h2 => by (try simp only [] at *); omega)).keep hk22) ((hs.take _ (by omega)).keep (((hkl.trans hk16).trans hk17).trans hk22)) (by (try simp only [List.length_append, List.length_cons, List.length_nil, List.length_take, List.length_drop, List.length_map, List.length_range]); omega) (by intros; (try simp only [] at *); omega)) (by rintro v23 w23 ⟨hM23, hx23⟩ _; exact hx23.mono (fun k _ h => by (try simp only [] at *); omega)) ?_
          rintro v23 w23 ⟨hM23, hx23⟩
          replace hM23 := Mine.mono (T := fun k => w16.heap.size ≤ k) hM23 (fun k _ h => by (try simp only [] at *); omega)
          have hx23' := hx23.size
          refine X.dE (i := 7) (by kernel_rfl) rfl (X.dwN rfl) (X.appE (K := KI) (S := fun k => w16.heap.size ≤ k) KI_flat Tryz.underlying95 EIr rfl rfl (Mine.mono (T := fun k => w16.heap.size ≤ k) hM23 (fun k h1 h2 => by (try simp only [] at *); omega)) (hs22.ext hx23 (by intros; (try simp only []); omega)) (by (try simp only [List.length_append, List.length_cons, List.length_nil, List.length_take, List.length_drop, List.length_map, List.length_range]); omega) (by intros; (try simp only [] at *); omega)) (by rintro v24 w24 ⟨hM24, hx24⟩ _; exact hx24.mono (fun k _ h => by (try simp only [] at *); omega)) ?_
          rintro v24 w24 ⟨hM24, hx24⟩
          have hx24' := hx24.size
          refine X.dE (i := 11) (by kernel_rfl) rfl (X.dwN rfl) (X.appE (K := KI) (S := fun k => w16.heap.size ≤ k) KI_flat Tryz.underlying95 EIr rfl rfl (Mine.mono (T := fun k => w16.heap.size ≤ k) hM24 (fun k h1 h2 => by (try simp only [] at *); omega)) ((hs.drop _ _ (by omega) (by omega)).keep (((((hkl.trans hk16).trans hk17).trans hk22).step hx23 (by intros; (try simp only [] at *); omega)).step hx24 (by intros; (try simp only [] at *); omega))) (by (try simp only [List.length_append, List.length_cons, List.length_nil, List.length_take, List.length_drop, List.length_map, List.length_range]); omega) (by intros; (try simp only [] at *); omega)) (by rintro v25 w25 ⟨hM25, hx25⟩ _; exact hx25.mono (fun k _ h => by (try simp only [] at *); omega)) ?_
          rintro v25 w25 ⟨hM25, hx25⟩
          have hx25' := hx25.size
          refine X.dStep (i := 12) (by kernel_rfl) rfl (X.dwN rfl) (X.assign rfl) (fun h => absurd h (by decide)) ?_
          refine X.dEnd (by kernel_rfl) ?_
          refine X.ret1 Tryz.func60 Tryz.results60 rfl ?_
          have hcut := cut_at (fun x : Int => decide (x < k)) (l := l) (k := i) (fun j y hj hy => hlt j y hj hy) (fun y hy => by first | (rw [hx] at hy; cases hy; exact decide_eq_false h16) | (rw [List.getElem?_eq_none (by omega)] at hy; cases hy)) (by omega)
          have hne : ¬ (l.dropWhile fun x : Int => decide (x < k)).head? = some k := by
            rw [hcut.2, List.head?_drop]
            first | (rw [hx]; intro e; injection e with e; exact h30 e) | (rw [List.getElem?_eq_none (by omega)]; simp)
          have he : lput k l = l.take i ++ [k] ++ l.drop i := by rw [lput, if_neg hne, hcut.1, hcut.2]
          exact ⟨.inr (by rw [he]; exact (hM25).mono (fun q _ h => by (try simp only at h); omega)), ((((((hkl.trans hk16).trans hk17).trans hk22).step hx23 (by intros; (try simp only [] at *); omega)).step hx24 (by intros; (try simp only [] at *); omega)).step hx25 (by intros; (try simp only [] at *); omega))⟩
      · refine X.d1E (i := 6) rfl (X.dwN rfl) (X.litKF KI_flat (K := KI) (xs := [Operand.tmp 38]) (vs := [.int .i64 k]) (ys := [k]) Tryz.underlying95 Tryz.sizeOf3 Tryz.zeroValue3 rfl rfl rfl rfl rfl (rrepsI k (by omega))) (by rintro _ w26 ⟨rfl, hs26, hB26, hk26, hz26⟩ _; exact hk26.mono (fun _ _ h => h.elim)) ?_
        rintro _ w26 ⟨rfl, hs26, hB26, hk26, hz26⟩
        refine X.dE (i := 0) (by kernel_rfl) rfl (X.dwN rfl) (X.lit0E (K := KI) (S := fun k => w26.heap.size ≤ k) Tryz.underlying95 Tryz.sizeOf3 (by intros; (try simp only [] at *); omega)) (by rintro v27 w27 ⟨hM27, hk27, hz27⟩ _; exact hk27.mono (fun _ _ h => h.elim)) ?_
        rintro v27 w27 ⟨hM27, hk27, hz27⟩
        refine X.dE (i := 4) (by kernel_rfl) rfl (X.dwN rfl) (X.appE (K := KI) (S := fun k => w26.heap.size ≤ k) KI_flat Tryz.underlying95 EIr rfl rfl hM27 ((hs.take _ (by omega)).keep (((hkl.trans hk16).trans hk26).trans hk27)) (by (try simp only [List.length_append, List.length_cons, List.length_nil, List.length_take, List.length_drop, List.length_map, List.length_range]); omega) (by intros; (try simp only [] at *); omega)) (by rintro v28 w28 ⟨hM28, hx28⟩ _; exact hx28.mono (fun k _ h => by (try simp only [] at *); omega)) ?_
        rintro v28 w28 ⟨hM28, hx28⟩
        have hx28' := hx28.size
        refine X.dE (i := 7) (by kernel_rfl) rfl (X.dwN rfl) (X.appE (K := KI) (S := fun k => w26.heap.size ≤ k) KI_flat Tryz.underlying95 EIr rfl rfl (Mine.mono (T := fun k => w26.heap.size ≤ k) hM28 (fun k h1 h2 => by (try simp only [] at *); omega)) (hs26.keep (hk27.step hx28 (by intros; (try simp only [] at *); omega))) (by (try simp only [List.length_append, List.length_cons, List.length_nil, List.length_take, List.length_drop, List.length_map, List.length_range]); omega) (by intros; (try simp only [] at *); omega)) (by rintro v29 w29 ⟨hM29, hx29⟩ _; exact hx29.mono (fun k _ h => by (try simp only [] at *); omega)) ?_
        rintro v29 w29 ⟨hM29, hx29⟩
        have hx29' := hx29.size
        refine X.dE (i := 11) (by kernel_rfl) rfl (X.dwN rfl) (X.appE (K := KI) (S := fun k => w26.heap.size ≤ k) KI_flat Tryz.underlying95 EIr rfl rfl (Mine.mono (T := fun k => w26.heap.size ≤ k) hM29 (fun k h1 h2 => by (try simp only [] at *); omega)) ((hs.drop _ _ (by omega) (by omega)).keep (((((hkl.trans hk16).trans hk26).trans hk27).step hx28 (by intros; (try simp only [] at *); omega)).step hx29 (by intros; (try simp only [] at *); omega))) (by (try simp only [List.length_append, List.length_cons, List.length_nil, List.length_take, List.length_drop, List.length_map, List.length_range]); omega) (by intros; (try simp only [] at *); omega)) (by rintro v30 w30 ⟨hM30, hx30⟩ _; exact hx30.mono (fun k _ h => by (try simp only [] at *); omega)) ?_
        rintro v30 w30 ⟨hM30, hx30⟩
        have hx30' := hx30.size
        refine X.dStep (i := 12) (by kernel_rfl) rfl (X.dwN rfl) (X.assign rfl) (fun h => absurd h (by decide)) ?_
        refine X.dEnd (by kernel_rfl) ?_
        refine X.ret1 Tryz.func60 Tryz.results60 rfl ?_
        have hcut := cut_at (fun x : Int => decide (x < k)) (l := l) (k := i) (fun j y hj hy => hlt j y hj hy) (fun y hy => by first | (rw [hx] at hy; cases hy; exact decide_eq_false h16) | (rw [List.getElem?_eq_none (by omega)] at hy; cases hy)) (by omega)
        have hne : ¬ (l.dropWhile fun x : Int => decide (x < k)).head? = some k := by
          rw [hcut.2, List.head?_drop]
          first | (rw [hx]; intro e; injection e with e; exact h30 e) | (rw [List.getElem?_eq_none (by omega)]; simp)
        have he : lput k l = l.take i ++ [k] ++ l.drop i := by rw [lput, if_neg hne, hcut.1, hcut.2]
        exact ⟨.inr (by rw [he]; exact (hM30).mono (fun q _ h => by (try simp only at h); omega)), ((((((hkl.trans hk16).trans hk26).trans hk27).step hx28 (by intros; (try simp only [] at *); omega)).step hx29 (by intros; (try simp only [] at *); omega)).step hx30 (by intros; (try simp only [] at *); omega))⟩
end Go.Proofs.YtcdebnppbnmmgaaGreat

namespace Go.Proofs.YtcdebnppbnmmgaaGreat
open Go Go.Proofs.YtcdebnppbnmmgaaGreat.X
set_option linter.unusedVariables false
set_option linter.unusedSimpArgs false
set_option maxHeartbeats 4000000 in
set_option maxRecDepth 100000 in
theorem apply_c {lo hi n c : Nat} {A : Option Addr} {l : DIR} (x : CHG) (w : World) (hs : Sl KEn lo hi w A n l) (hn : n ≤ 100000) : Ret Tryz.prog 63 #[.slice A n c, evCh x] w fun r w' => (r = .slice A n c ∧ rapply x l = l ∨ Mine KEn 121 (fun k => w.heap.size ≤ k) 0 0 w' r (rapply x l)) ∧ Keep w w' := by
  have hl := hs.len
  have hrl := rwo_len x.1 l
  refine X.enter Tryz.func63 rfl Tryz.ntmps63 rfl ?_
  refine X.seq ?_
  refine X.region ?_
  refine X.opE X.wN rfl (X.boxE rfl rfl) ?_
  rintro _ w1 ⟨rfl, hB1, hk1, hz1⟩
  refine X.opw X.wN rfl (X.assign rfl) ?_
  refine X.opsEnd ?_
  refine X.seq ?_
  refine X.seq ?_
  refine X.region ?_
  refine X.opw X.wN rfl (X.fldB (j := 0) Tryz.underlying113 rfl rfl Tryz.sizeOf9 rfl) ?_
  refine X.opw X.wN rfl (X.load1B Tryz.isAgg9 hB1 rfl rfl) ?_
  refine X.opP X.wN rfl rfl (X.neD rfl rfl) (fun h7 => ?_) (fun h7 => ?_)
  · refine X.opsEnd ?_
    refine X.condT rfl ?_
    refine X.region ?_
    refine X.opw X.wN rfl (X.move (v := .slice _ _ _) rfl) ?_
    refine X.opw X.wN rfl (X.fldB (j := 0) Tryz.underlying113 rfl rfl Tryz.sizeOf9 rfl) ?_
    refine X.opw X.wN rfl (X.load1B Tryz.isAgg9 hB1 rfl rfl) ?_
    refine X.opE X.wN rfl (X.callE (without_c _ _ (hs.keep hk1) (by omega)) Tryz.call74 rfl rfl) ?_
    rintro v2 w2 ⟨hM2, hk2⟩
    have hk2' := hk2.size
    refine X.opw X.wN rfl (X.assign rfl) ?_
    refine X.opsEnd ?_
    refine X.seq ?_
    refine X.seq ?_
    refine X.region ?_
    refine X.opw X.wN rfl (X.fldB (j := 1) Tryz.underlying113 rfl rfl Tryz.sizeOf9 rfl) ?_
    refine X.opw X.wN rfl (X.load1B Tryz.isAgg9 (hB1.keep hk2) rfl rfl) ?_
    refine X.opP X.wN rfl rfl (X.neD rfl rfl) (fun h14 => ?_) (fun h14 => ?_)
    · refine X.opsEnd ?_
      refine X.condT rfl ?_
      refine X.region ?_
      refine X.opw X.wN rfl (X.move rfl) ?_
      refine X.opw X.wN rfl (X.fldB (j := 1) Tryz.underlying113 rfl rfl Tryz.sizeOf9 rfl) ?_
      refine X.opw X.wN rfl (X.load1B Tryz.isAgg9 (hB1.keep hk2) rfl rfl) ?_
      refine X.opw X.wN rfl (X.fldB (j := 2) Tryz.underlying113 rfl rfl Tryz.sizeOf3 rfl) ?_
      refine X.opw X.wN rfl (X.load1B Tryz.isAgg3 (hB1.keep hk2) rfl rfl) ?_
      refine X.opw X.wN rfl (X.buildB (vs := [(0, .string x.2.1), (1, .int .i64 x.2.2)]) (cs := #[.string x.2.1, .int .i64 x.2.2]) rfl (by kernel_rfl)) ?_
      have q4 := hM2.slF KEn_flat 0 (fun _ _ => Nat.zero_le _)
      obtain ⟨A4, c4, rfl, hc4, hs4⟩ := q4
      refine X.opE X.wN rfl (X.callE (with_c _ _ _ hs4 (by (try rw [hrl]); omega)) Tryz.call67 rfl rfl) ?_
      rintro v3 w3 ⟨hM3, hk3⟩
      have hk3' := hk3.size
      refine X.opw X.wN rfl (X.assign rfl) ?_
      refine X.opsEnd ?_
      refine X.seq ?_
      refine X.region ?_
      refine X.opw X.wN rfl (X.move rfl) ?_
      refine X.opw X.wN rfl (X.assign rfl) ?_
      refine X.opsEnd ?_
      refine X.ret1 Tryz.func63 Tryz.results63 rfl ?_
      refine ⟨.inr ?_, ((hk1.trans hk2).trans hk3)⟩
      have he : rapply x l = rwith (x.2.1, x.2.2) (rwo x.1 l) := by rw [rapply]; simp only; rw [if_neg h14, if_neg h7]
      rw [he]
      exact (hM3).mono (fun q _ h => by (try simp only at h); omega)
    · refine X.opsEnd ?_
      refine X.condF rfl ?_
      refine X.skip ?_
      refine X.seq ?_
      refine X.region ?_
      refine X.opw X.wN rfl (X.move rfl) ?_
      refine X.opw X.wN rfl (X.assign rfl) ?_
      refine X.opsEnd ?_
      refine X.ret1 Tryz.func63 Tryz.results63 rfl ?_
      refine ⟨.inr ?_, (hk1.trans hk2)⟩
      have he : rapply x l = rwo x.1 l := by rw [rapply]; simp only; rw [if_pos (Classical.not_not.1 h14), if_neg h7]
      rw [he]
      exact (hM2).mono (fun q _ h => by (try simp only at h); omega)
  · refine X.opsEnd ?_
    refine X.condF rfl ?_
    refine X.skip ?_
    refine X.seq ?_
    refine X.seq ?_
    refine X.region ?_
    refine X.opw X.wN rfl (X.fldB (j := 1) Tryz.underlying113 rfl rfl Tryz.sizeOf9 rfl) ?_
    refine X.opw X.wN rfl (X.load1B Tryz.isAgg9 hB1 rfl rfl) ?_
    refine X.opP X.wN rfl rfl (X.neD rfl rfl) (fun h14 => ?_) (fun h14 => ?_)
    · refine X.opsEnd ?_
      refine X.condT rfl ?_
      refine X.region ?_
      refine X.opw X.wN rfl (X.move (v := .slice _ _ _) rfl) ?_
      refine X.opw X.wN rfl (X.fldB (j := 1) Tryz.underlying113 rfl rfl Tryz.sizeOf9 rfl) ?_
      refine X.opw X.wN rfl (X.load1B Tryz.isAgg9 hB1 rfl rfl) ?_
      refine X.opw X.wN rfl (X.fldB (j := 2) Tryz.underlying113 rfl rfl Tryz.sizeOf3 rfl) ?_
      refine X.opw X.wN rfl (X.load1B Tryz.isAgg3 hB1 rfl rfl) ?_
      refine X.opw X.wN rfl (X.buildB (vs := [(0, .string x.2.1), (1, .int .i64 x.2.2)]) (cs := #[.string x.2.1, .int .i64 x.2.2]) rfl (by kernel_rfl)) ?_
      refine X.opE X.wN rfl (X.callE (with_c _ _ _ (hs.keep hk1) (by (try rw [hrl]); omega)) Tryz.call67 rfl rfl) ?_
      rintro v5 w5 ⟨hM5, hk5⟩
      have hk5' := hk5.size
      refine X.opw X.wN rfl (X.assign rfl) ?_
      refine X.opsEnd ?_
      refine X.seq ?_
      refine X.region ?_
      refine X.opw X.wN rfl (X.move rfl) ?_
      refine X.opw X.wN rfl (X.assign rfl) ?_
      refine X.opsEnd ?_
      refine X.ret1 Tryz.func63 Tryz.results63 rfl ?_
      refine ⟨.inr ?_, (hk1.trans hk5)⟩
      have he : rapply x l = rwith (x.2.1, x.2.2) l := by rw [rapply]; simp only; rw [if_neg h14, if_pos (Classical.not_not.1 h7)]
      rw [he]
      exact (hM5).mono (fun q _ h => by (try simp only at h); omega)
    · refine X.opsEnd ?_
      refine X.condF rfl ?_
      refine X.skip ?_
      refine X.seq ?_
      refine X.region ?_
      refine X.opw X.wN rfl (X.move (v := .slice _ _ _) rfl) ?_
      refine X.opw X.wN rfl (X.assign (v := .slice _ _ _) rfl) ?_
      refine X.opsEnd ?_
      refine X.ret1 Tryz.func63 Tryz.results63 rfl ?_
      exact ⟨.inl ⟨rfl, by rw [rapply]; simp only; rw [if_pos (Classical.not_not.1 h14), if_pos (Classical.not_not.1 h7)]⟩, hk1⟩
end Go.Proofs.YtcdebnppbnmmgaaGreat

namespace Go.Proofs.YtcdebnppbnmmgaaGreat
open Go Go.Proofs.YtcdebnppbnmmgaaGreat.X
set_option linter.unusedVariables false
set_option linter.unusedSimpArgs false
abbrev MPF (w : World) (b : Nat) (d : List (Int × Value)) : Prop := MpV (fun x : Int => Value.int .i64 x) (fun v : Value => v) w b d
abbrev MPL (w : World) (b : Nat) (d : List ((Int × Int) × Bool)) : Prop := MpV (fun x : Int × Int => Value.agg #[.int .i64 x.1, .int .i64 x.2]) (fun v : Bool => Value.bool v) w b d
set_option maxHeartbeats 4000000 in
set_option maxRecDepth 100000 in
theorem New_c (rm : Int) (w : World) : Ret Tryz.prog 10 #[.int .i64 rm] w fun r w' => (rm < 1 ∨ 1048576 < rm) ∧ r = .tuple #[.pointer none, .int .i64 1] ∧ Keep w w' ∨ ¬ (rm < 1 ∨ 1048576 < rm) ∧ ∃ b bf bd bx bl, r = .tuple #[ptrV b, .int .i64 0] ∧ Blk w' b (dkL rm (some bf) 0 (some bd) (some bx) none 0 0 (some bl) false 0) 71 ∧ MPF w' bf [] ∧ MPD w' bd [] ∧ MPD w' bx [] ∧ MPL w' bl [] ∧ w.heap.size ≤ bf ∧ bf < bd ∧ bd < bx ∧ bx < bl ∧ bl < b ∧ b < w'.heap.size ∧ Keep w w' := by
  refine X.enter Tryz.func10 rfl Tryz.ntmps10 rfl ?_
  refine X.seq ?_
  refine X.region ?_
  refine X.opw X.wN rfl (X.assign rfl) ?_
  refine X.opw X.wN rfl (X.assign rfl) ?_
  refine X.opsEnd ?_
  refine X.seq ?_
  refine X.seq ?_
  refine X.region ?_
  refine X.opw X.wN rfl (X.move (v := .int .i64 _) rfl) ?_
  refine X.opP X.wN rfl rfl (X.lss rfl rfl) (fun h5 => ?_) (fun h5 => ?_)
  · refine X.opw X.wN rfl (X.move (v := .bool true) rfl) ?_
    refine X.opS rfl rfl rfl rfl rfl ?_
    refine X.opS rfl rfl rfl rfl rfl ?_
    refine X.opw X.wN rfl (X.pickT (v := .bool true) rfl rfl) ?_
    refine X.opsEnd ?_
    refine X.condT rfl ?_
    refine X.seq ?_
    refine X.region ?_
    refine X.opw X.wN rfl (X.assign rfl) ?_
    refine X.opw X.wN rfl (X.assign rfl) ?_
    refine X.opsEnd ?_
    refine X.ret2 (v2 := (.int .i64 _)) Tryz.func10 Tryz.results10 rfl rfl ?_
    exact .inl ⟨by omega, rfl, (Keep.refl _)⟩
  · refine X.opw X.wN rfl (X.move (v := .bool false) rfl) ?_
    refine X.opw (X.wG rfl rfl rfl) rfl (X.move (v := .int .i64 _) rfl) ?_
    refine X.opP (X.wG rfl rfl rfl) rfl rfl (X.gtr rfl rfl) (fun h8 => ?_) (fun h8 => ?_)
    · refine X.opw X.wN rfl (X.pickF (v := .bool true) rfl rfl) ?_
      refine X.opsEnd ?_
      refine X.condT rfl ?_
      refine X.seq ?_
      refine X.region ?_
      refine X.opw X.wN rfl (X.assign rfl) ?_
      refine X.opw X.wN rfl (X.assign rfl) ?_
      refine X.opsEnd ?_
      refine X.ret2 (v2 := (.int .i64 _)) Tryz.func10 Tryz.results10 rfl rfl ?_
      exact .inl ⟨by omega, rfl, (Keep.refl _)⟩
    · refine X.opw X.wN rfl (X.pickF (v := .bool false) rfl rfl) ?_
      refine X.opsEnd ?_
      refine X.condF rfl ?_
      refine X.skip ?_
      refine X.seq ?_
      refine X.region ?_
      refine X.opw X.wN rfl (X.move (v := .int .i64 _) rfl) ?_
      refine X.opE X.wN rfl (X.makeMapV (fun x : Int => Value.int .i64 x) (fun v : Value => v)) ?_
      rintro _ w1 ⟨rfl, hG1, hk1, hz1⟩
      refine X.opE X.wN rfl (X.makeMapV (fun x : ByteArray => Value.string x) (fun v : Int => Value.int .i64 v)) ?_
      rintro _ w2 ⟨rfl, hG2, hk2, hz2⟩
      refine X.opE X.wN rfl (X.makeMapV (fun x : ByteArray => Value.string x) (fun v : Int => Value.int .i64 v)) ?_
      rintro _ w3 ⟨rfl, hG3, hk3, hz3⟩
      refine X.opE X.wN rfl (X.makeMapV (fun x : Int × Int => Value.agg #[.int .i64 x.1, .int .i64 x.2]) (fun v : Bool => Value.bool v)) ?_
      rintro _ w4 ⟨rfl, hG4, hk4, hz4⟩
      refine X.opw X.wN rfl (X.buildB (vs := [(0, .int .i64 rm), (1, .map (some w.heap.size)), (3, .map (some w1.heap.size)), (4, .map (some w2.heap.size)), (6, .map (some w3.heap.size))]) (cs := #[.int .i64 rm, .map (some w.heap.size), .int .i64 0, .map (some w1.heap.size), .map (some w2.heap.size), .slice none 0 0, .map (some w3.heap.size), .bool false, .int .i64 0]) rfl (by kernel_rfl)) ?_
      refine X.opE X.wN rfl (X.boxE rfl rfl) ?_
      rintro _ w5 ⟨rfl, hB5, hk5, hz5⟩
      refine X.opw X.wN rfl (X.assign rfl) ?_
      refine X.opw X.wN rfl (X.assign rfl) ?_
      refine X.opsEnd ?_
      refine X.ret2 (v2 := (.int .i64 _)) Tryz.func10 Tryz.results10 rfl rfl ?_
      exact .inr ⟨by omega, w4.heap.size, w.heap.size, w1.heap.size, w2.heap.size, w3.heap.size, rfl, hB5, (hG1.keep (((hk2.trans hk3).trans hk4).trans hk5)), (hG2.keep ((hk3.trans hk4).trans hk5)), (hG3.keep (hk4.trans hk5)), (hG4.keep hk5), by omega, by omega, by omega, by omega, by omega, by omega, ((((hk1.trans hk2).trans hk3).trans hk4).trans hk5)⟩
end Go.Proofs.YtcdebnppbnmmgaaGreat

namespace Go.Proofs.YtcdebnppbnmmgaaGreat
open Go Go.Proofs.YtcdebnppbnmmgaaGreat.X
set_option linter.unusedVariables false
set_option linter.unusedSimpArgs false
set_option maxHeartbeats 4000000 in
set_option maxRecDepth 100000 in
theorem named_c {b bd bf : Nat} {rm mk lf : Int} {bx bl : Option Nat} {A : Option Addr} {n c : Nat} {fu : Bool} {d : DIR} {fm : List (Int × Value)} (nm : ByteArray) (w : World) (hB : Blk w b (dkL rm (some bf) mk (some bd) bx A n c bl fu lf) 71) (hG : MPD w bd d) (hF : MPF w bf fm) : Ret Tryz.prog 47 #[ptrV b, .string nm] w fun r w' => r = .tuple #[.int .i64 ((asc nm d).getD 0), (asc ((asc nm d).getD 0) fm).getD (.pointer none), .bool (asc nm d).isSome] ∧ Keep w w' := by
  refine X.enter Tryz.func47 rfl Tryz.ntmps47 rfl ?_
  refine X.seq ?_
  refine X.region ?_
  refine X.opw X.wN rfl (X.assign rfl) ?_
  refine X.opw X.wN rfl (X.assign rfl) ?_
  refine X.opw X.wN rfl (X.assign rfl) ?_
  refine X.opsEnd ?_
  refine X.seq ?_
  refine X.region ?_
  refine X.opw X.wN rfl (X.move rfl) ?_
  refine X.opw X.wN rfl (X.nilCk rfl) ?_
  refine X.opw X.wN rfl (X.fldB (j := 3) Tryz.underlying71 rfl rfl Tryz.sizeOf67 rfl) ?_
  refine X.opw X.wN rfl (X.load1B Tryz.isAgg67 hB rfl rfl) ?_
  refine X.opw X.wN rfl (X.move (v := .string _) rfl) ?_
  refine X.opw X.wN rfl (X.lookupOkV (enc := (fun x : ByteArray => Value.string x)) (venc := (fun v : Int => Value.int .i64 v)) (z := 0) Tryz.underlying67 (keyStr Tryz.underlying9) Tryz.zeroValue3 hG rfl rfl) ?_
  refine X.opw X.wN rfl (X.move rfl) ?_
  refine X.opw X.wN rfl (X.extr rfl rfl) ?_
  refine X.opw X.wN rfl (X.extr rfl rfl) ?_
  refine X.opw X.wN rfl (X.assign (v := .int .i64 _) rfl) ?_
  refine X.opw X.wN rfl (X.assign (v := .bool _) rfl) ?_
  refine X.opsEnd ?_
  refine X.seq ?_
  refine X.regionD (fun _ => False) 10 (by kernel_rfl) (by kernel_rfl) (fun w1 hk1 hz1 => ?_)
  refine X.dTake 0 rfl (by kernel_rfl) (by kernel_rfl) (by kernel_rfl) (X.dwN rfl) (fun w' hk' => X.move (v := .int .i64 _) rfl) ?_
  refine X.dTake 1 rfl (by kernel_rfl) (by kernel_rfl) (by kernel_rfl) (X.dwN rfl) (fun w' hk' => X.move rfl) ?_
  refine X.dTake 2 rfl (by kernel_rfl) (by kernel_rfl) (by kernel_rfl) (X.dwN rfl) (fun w' hk' => X.nilCk rfl) ?_
  refine X.dTake 3 rfl (by kernel_rfl) (by kernel_rfl) (by kernel_rfl) (X.dwN rfl) (fun w' hk' => X.fldB (j := 1) Tryz.underlying71 rfl rfl Tryz.sizeOf66 rfl) ?_
  refine X.dTake 4 rfl (by kernel_rfl) (by kernel_rfl) (by kernel_rfl) (X.dwN rfl) (fun w' hk' => X.load1B Tryz.isAgg66 (hB.keep (hk1.trans hk')) rfl rfl) ?_
  refine X.dTake 5 rfl (by kernel_rfl) (by kernel_rfl) (by kernel_rfl) (X.dwN rfl) (fun w' hk' => X.move (v := .int .i64 _) rfl) ?_
  refine X.dTake 6 rfl (by kernel_rfl) (by kernel_rfl) (by kernel_rfl) (X.dwN rfl) (fun w' hk' => X.lookupV (enc := (fun x : Int => Value.int .i64 x)) (venc := (fun v : Value => v)) (z := (Value.pointer none)) Tryz.underlying66 (keyInt Tryz.underlying3) Tryz.zeroValue85 (hF.keep (hk1.trans hk')) rfl rfl) ?_
  refine X.dTake 7 rfl (by kernel_rfl) (by kernel_rfl) (by kernel_rfl) (X.dwN rfl) (fun w' hk' => X.move (v := .bool _) rfl) ?_
  refine X.dTake 8 rfl (by kernel_rfl) (by kernel_rfl) (by kernel_rfl) (X.dwN rfl) (fun w' hk' => X.assign (v := .int .i64 _) rfl) ?_
  refine X.dTake 9 rfl (by kernel_rfl) (by kernel_rfl) (by kernel_rfl) (X.dwN rfl) (fun w' hk' => X.assign rfl) ?_
  refine X.dStep (i := 10) (by kernel_rfl) rfl (X.dwN rfl) (X.assign (v := .bool _) rfl) (fun h => absurd h (by decide)) ?_
  refine X.dEnd (by kernel_rfl) ?_
  refine X.ret3 (v1 := (.int .i64 _)) (v3 := (.bool _)) Tryz.func47 Tryz.results47 rfl rfl rfl ?_
  exact ⟨rfl, hk1⟩
end Go.Proofs.YtcdebnppbnmmgaaGreat

namespace Go.Proofs.YtcdebnppbnmmgaaGreat
open Go Go.Proofs.YtcdebnppbnmmgaaGreat.X
set_option linter.unusedVariables false
set_option linter.unusedSimpArgs false
set_option maxHeartbeats 4000000 in
set_option maxRecDepth 100000 in
theorem Fuse_c {b bd : Nat} {rm mk lf : Int} {bf bx bl : Option Nat} {A : Option Addr} {n c : Nat} {fu : Bool} (i : Int) (w : World) (hB : Blk w b (dkL rm bf mk (some bd) bx A n c bl fu lf) 71) : Ret Tryz.prog 27 #[ptrV b, .int .i64 i] w fun r w' => ((i < 0 ∨ 1048576 < i) ∧ r = .int .i64 5 ∧ Keep w w') ∨ (¬ (i < 0 ∨ 1048576 < i) ∧ r = .int .i64 0 ∧ Blk w' b (dkL rm bf mk (some bd) bx A n c bl true i) 71 ∧ Ext (fun q => q = b) w w') := by
  refine X.enter Tryz.func27 rfl Tryz.ntmps27 rfl ?_
  refine X.seq ?_
  refine X.region ?_
  refine X.opw X.wN rfl (X.assign rfl) ?_
  refine X.opsEnd ?_
  refine X.seq ?_
  refine X.block ?_
  refine X.seq ?_
  refine X.region ?_
  refine X.opw X.wN rfl (X.move rfl) ?_
  refine X.opE X.wN rfl (X.callE (is_c _ hB) Tryz.call32 rfl rfl) ?_
  rintro _ w1 ⟨rfl, hk1⟩
  have hk1' := hk1.size
  refine X.opw X.wN rfl (X.not_ rfl) ?_
  refine X.opw X.wN rfl (X.assign (v := .bool false) rfl) ?_
  refine X.opsEnd ?_
  refine X.condF rfl ?_
  refine X.seq ?_
  refine X.region ?_
  refine X.opw X.wN rfl (X.move (v := .int .i64 _) rfl) ?_
  refine X.opP X.wN rfl rfl (X.lss rfl rfl) (fun h11 => ?_) (fun h11 => ?_)
  · refine X.opw X.wN rfl (X.move (v := .bool true) rfl) ?_
    refine X.opS rfl rfl rfl rfl rfl ?_
    refine X.opS rfl rfl rfl rfl rfl ?_
    refine X.opw X.wN rfl (X.pickT (v := .bool true) rfl rfl) ?_
    refine X.opw X.wN rfl (X.assign (v := .bool true) rfl) ?_
    refine X.opsEnd ?_
    refine X.condT rfl ?_
    refine X.seq ?_
    refine X.region ?_
    refine X.opw X.wN rfl (X.assign rfl) ?_
    refine X.opsEnd ?_
    refine X.ret1 (v := (.int .i64 _)) Tryz.func27 Tryz.results27 rfl ?_
    exact .inl ⟨by omega, rfl, hk1⟩
  · refine X.opw X.wN rfl (X.move (v := .bool false) rfl) ?_
    refine X.opw (X.wG rfl rfl rfl) rfl (X.move (v := .int .i64 _) rfl) ?_
    refine X.opP (X.wG rfl rfl rfl) rfl rfl (X.gtr rfl rfl) (fun h14 => ?_) (fun h14 => ?_)
    · refine X.opw X.wN rfl (X.pickF (v := .bool true) rfl rfl) ?_
      refine X.opw X.wN rfl (X.assign (v := .bool true) rfl) ?_
      refine X.opsEnd ?_
      refine X.condT rfl ?_
      refine X.seq ?_
      refine X.region ?_
      refine X.opw X.wN rfl (X.assign rfl) ?_
      refine X.opsEnd ?_
      refine X.ret1 (v := (.int .i64 _)) Tryz.func27 Tryz.results27 rfl ?_
      exact .inl ⟨by omega, rfl, hk1⟩
    · refine X.opw X.wN rfl (X.pickF (v := .bool false) rfl rfl) ?_
      refine X.opw X.wN rfl (X.assign (v := .bool false) rfl) ?_
      refine X.opsEnd ?_
      refine X.condF rfl ?_
      refine X.skip ?_
      refine X.inBlock ?_
      refine X.seq ?_
      refine X.region ?_
      refine X.opw X.wN rfl (X.move rfl) ?_
      refine X.opw X.wN rfl (X.move rfl) ?_
      refine X.opw X.wN rfl (X.move (v := .int .i64 _) rfl) ?_
      refine X.opw X.wN rfl (X.nilCk rfl) ?_
      refine X.opw X.wN rfl (X.fldB (j := 7) Tryz.underlying71 rfl rfl Tryz.sizeOf4 rfl) ?_
      refine X.opE X.wN rfl (X.storeE Tryz.sizeOf4 (hB.keep hk1) rfl rfl rfl rfl) ?_
      rintro _ w2 ⟨hB2, hx2, hz2⟩
      refine X.opw X.wN rfl (X.nilCk rfl) ?_
      refine X.opw X.wN rfl (X.fldB (j := 8) Tryz.underlying71 rfl rfl Tryz.sizeOf3 rfl) ?_
      refine X.opE X.wN rfl (X.storeE Tryz.sizeOf3 hB2 rfl rfl rfl rfl) ?_
      rintro _ w3 ⟨hB3, hx3, hz3⟩
      refine X.opsEnd ?_
      refine X.seq ?_
      refine X.region ?_
      refine X.opw X.wN rfl (X.assign rfl) ?_
      refine X.opsEnd ?_
      refine X.ret1 (v := (.int .i64 _)) Tryz.func27 Tryz.results27 rfl ?_
      exact .inr ⟨by omega, rfl, hB3, (Ext.andThen (Ext.andThen (Ext.andThen (Ext.refl (fun q => q = b) _) hk1 (by intro q h1 h2; first | exact (h2 : False).elim | exact h2)) hx2 (by intro q h1 h2; first | exact (h2 : False).elim | exact h2)) hx3 (by intro q h1 h2; first | exact (h2 : False).elim | exact h2))⟩
end Go.Proofs.YtcdebnppbnmmgaaGreat

namespace Go.Proofs.YtcdebnppbnmmgaaGreat
open Go Go.Proofs.YtcdebnppbnmmgaaGreat.X
set_option linter.unusedVariables false
set_option linter.unusedSimpArgs false
/-- A file's block: what it has, what is fixed. -/
abbrev fiL (A1 : Option Addr) (n1 c1 : Nat) (A2 : Option Addr) (n2 c2 : Nat) : List Value := [.slice A1 n1 c1, .slice A2 n2 c2]
set_option maxHeartbeats 4000000 in
set_option maxRecDepth 100000 in
theorem Size_c {b bd bf : Nat} {rm mk lf : Int} {bx bl : Option Nat} {A : Option Addr} {n c : Nat} {fu : Bool} {d : DIR} {fm : List (Int × Value)} (nm : ByteArray) (w : World) (hB : Blk w b (dkL rm (some bf) mk (some bd) bx A n c bl fu lf) 71) (hG : MPD w bd d) (hF : MPF w bf fm) (hfl : ∀ k, asc nm d = some k → ∃ pf A1 n1 c1 A2 n2 c2, asc k fm = some (.pointer (some ⟨pf, 0, none⟩)) ∧ Blk w pf (fiL A1 n1 c1 A2 n2 c2) 87) : Ret Tryz.prog 38 #[ptrV b, .string nm] w fun r w' => ((asc nm d = none ∧ r = .tuple #[.int .i64 0, .int .i64 52]) ∨ ∃ k pf A1 n1 c1 A2 n2 c2, asc nm d = some k ∧ asc k fm = some (.pointer (some ⟨pf, 0, none⟩)) ∧ Blk w pf (fiL A1 n1 c1 A2 n2 c2) 87 ∧ r = .tuple #[.int .i64 (n1 : Int), .int .i64 0]) ∧ Keep w w' := by
  refine X.enter Tryz.func38 rfl Tryz.ntmps38 rfl ?_
  refine X.seq ?_
  refine X.region ?_
  refine X.opw X.wN rfl (X.assign rfl) ?_
  refine X.opw X.wN rfl (X.assign rfl) ?_
  refine X.opsEnd ?_
  refine X.seq ?_
  refine X.seq ?_
  refine X.region ?_
  refine X.opw X.wN rfl (X.move rfl) ?_
  refine X.opE X.wN rfl (X.callE (is_c _ hB) Tryz.call32 rfl rfl) ?_
  rintro _ w1 ⟨rfl, hk1⟩
  have hk1' := hk1.size
  refine X.opw X.wN rfl (X.not_ rfl) ?_
  refine X.opsEnd ?_
  refine X.condF rfl ?_
  refine X.skip ?_
  refine X.seq ?_
  refine X.region ?_
  refine X.opw X.wN rfl (X.move rfl) ?_
  refine X.opw X.wN rfl (X.move (v := .string _) rfl) ?_
  refine X.opE X.wN rfl (X.callE (named_c nm _ (hB.keep hk1) (hG.keep hk1) (hF.keep hk1)) Tryz.call47 rfl rfl) ?_
  rintro _ w2 ⟨rfl, hk2⟩
  have hk2' := hk2.size
  refine X.opw X.wN rfl (X.move rfl) ?_
  refine X.opw X.wN rfl (X.extr rfl rfl) ?_
  refine X.opw X.wN rfl (X.extr rfl rfl) ?_
  refine X.opw X.wN rfl (X.extr rfl rfl) ?_
  refine X.opw X.wN rfl (X.assign (v := .int .i64 _) rfl) ?_
  refine X.opw X.wN rfl (X.assign rfl) ?_
  refine X.opw X.wN rfl (X.assign (v := .bool _) rfl) ?_
  refine X.opsEnd ?_
  refine X.seq ?_
  refine X.seq ?_
  refine X.region ?_
  refine X.opw X.wN rfl (X.move (v := .bool _) rfl) ?_
  refine X.opw X.wN rfl (X.not_ rfl) ?_
  refine X.opsEnd ?_
  refine X.condB rfl (fun hc => ?_) (fun hc => ?_)
  · have hno : asc nm d = none := by
      cases ha : asc nm d with
      | none => rfl
      | some k => rw [ha] at hc; simp at hc
    refine X.seq ?_
    refine X.region ?_
    refine X.opw X.wN rfl (X.assign rfl) ?_
    refine X.opw X.wN rfl (X.assign rfl) ?_
    refine X.opsEnd ?_
    refine X.ret2 (v1 := (.int .i64 _)) (v2 := (.int .i64 _)) Tryz.func38 Tryz.results38 rfl rfl ?_
    exact ⟨.inl ⟨hno, rfl⟩, (hk1.trans hk2)⟩
  · obtain ⟨k, hfa⟩ : ∃ k, asc nm d = some k := by
      cases ha : asc nm d with
      | none => rw [ha] at hc; simp at hc
      | some k => exact ⟨k, rfl⟩
    obtain ⟨pf, A1, n1, c1, A2, n2, c2, hfb, hBf⟩ := hfl k hfa
    rw [hfa, Option.getD_some, hfb, Option.getD_some]
    refine X.skip ?_
    refine X.seq ?_
    refine X.region ?_
    refine X.opw X.wN rfl (X.move rfl) ?_
    refine X.opw X.wN rfl (X.nilCk rfl) ?_
    refine X.opw X.wN rfl (X.fldB (j := 0) Tryz.underlying87 rfl rfl Tryz.sizeOf31 rfl) ?_
    refine X.opw X.wN rfl (X.load1B Tryz.isAgg31 (hBf.keep (hk1.trans hk2)) rfl rfl) ?_
    refine X.opw X.wN rfl (X.lenSl Tryz.underlying31 rfl) ?_
    refine X.opw X.wN rfl (X.assign (v := .int .i64 _) rfl) ?_
    refine X.opw X.wN rfl (X.assign rfl) ?_
    refine X.opsEnd ?_
    refine X.ret2 (v1 := (.int .i64 _)) (v2 := (.int .i64 _)) Tryz.func38 Tryz.results38 rfl rfl ?_
    exact ⟨.inr ⟨k, pf, A1, n1, c1, A2, n2, c2, rfl, hfb, hBf, rfl⟩, (hk1.trans hk2)⟩
end Go.Proofs.YtcdebnppbnmmgaaGreat

namespace Go.Proofs.YtcdebnppbnmmgaaGreat
open Go Go.Proofs.YtcdebnppbnmmgaaGreat.X
set_option linter.unusedVariables false
set_option linter.unusedSimpArgs false
/-- What a name costs. -/
def cost (sz : Int → Nat) (d : DIR) (k : ByteArray) : Nat := (sz ((asc k d).getD 0) + 63) / 64
def costs (sz : Int → Nat) (d : DIR) : Nat := ((d.map (·.1)).map (cost sz d)).sum
theorem costs_of {sz : Int → Nat} {d : DIR} {ds : List ByteArray} (h1 : (d.map (·.1)).Nodup) (h2 : ds.Nodup) (h3 : ∀ k, k ∈ ds ↔ k ∈ d.map (·.1)) : (ds.map (cost sz d)).sum = costs sz d :=
  (((List.perm_ext_iff_of_nodup h2 h1).2 h3).map _).sum_nat
theorem nodup_len {α : Type} [DecidableEq α] {ds ks : List α} (h2 : ds.Nodup) (h3 : ∀ k, k ∈ ds → k ∈ ks) : ds.length ≤ ks.length := by
  induction ds generalizing ks with
  | nil => simp
  | cons a ds ih =>
    obtain ⟨h4, h5⟩ := List.nodup_cons.1 h2
    have ha := h3 a List.mem_cons_self
    have := ih (ks := @List.erase α instBEqOfDecidableEq ks a) h5 (fun k hk => (List.mem_erase_of_ne (show k ≠ a from fun e => h4 (by rw [← e]; exact hk))).2 (h3 k (List.mem_cons_of_mem _ hk)))
    rw [List.length_erase_of_mem ha] at this
    have : 0 < ks.length := List.length_pos_of_mem ha
    rw [List.length_cons]; omega
end Go.Proofs.YtcdebnppbnmmgaaGreat

namespace Go.Proofs.YtcdebnppbnmmgaaGreat
open Go Go.Proofs.YtcdebnppbnmmgaaGreat.X
set_option linter.unusedVariables false
set_option linter.unusedSimpArgs false
abbrev FILE := List UInt8 × List UInt8
/-- A disk: room, files, directory, what is fixed of it, changes, loose sectors, a fuse. -/
structure DS where
  rm : Int
  fs : List FILE
  dir : DIR
  fx : DIR
  chs : List CHG
  ls : List ((Int × Int) × Bool)
  fu : Bool
  lf : Int
/-- The map of the files, of their blocks. -/
def fmapF : Nat → List Nat → List (Int × Value)
  | _, [] => []
  | i, p :: pt => ((i : Int), ptrV p) :: fmapF (i + 1) pt
theorem fmapF_asc (k : Int) : ∀ (pt : List Nat) (i : Nat), asc k (fmapF i pt) = if (i : Int) ≤ k then (pt[(k - i).toNat]?).map ptrV else none
  | [], i => by simp [fmapF, asc]
  | p :: pt, i => by
    rw [fmapF, asc, fmapF_asc k pt (i + 1)]
    by_cases h : k = (i : Int)
    · subst h; simp
    · rw [if_neg h]
      by_cases h1 : (i : Int) ≤ k
      · rw [if_pos (by omega), if_pos h1]
        have : (k - (i : Int)).toNat = (k - ((i + 1 : Nat) : Int)).toNat + 1 := by omega
        rw [this, List.getElem?_cons_succ]
      · rw [if_neg (by omega), if_neg h1]
theorem fmapF_put (p : Nat) : ∀ (pt : List Nat) (i : Nat), put ((i + pt.length : Nat) : Int) (ptrV p) (fmapF i pt) = fmapF i (pt ++ [p])
  | [], i => by simp [fmapF, put]
  | q :: pt, i => by
    rw [fmapF, put, if_neg (by simp; omega), List.cons_append, fmapF]
    have := fmapF_put p pt (i + 1)
    rw [show i + 1 + pt.length = i + (q :: pt).length by simp; omega] at this
    rw [this]
/-- A file: its block, its two rows. -/
def FlR (col : Nat → Nat) (w : World) (k p : Nat) (f : FILE) : Prop := col p = 7 + 3 * k ∧ ∃ A1 n1 c1 A2 n2 c2, Blk w p (fiL A1 n1 c1 A2 n2 c2) 87 ∧ Row KB 5 (fun q => col q = 8 + 3 * k) 0 0 w (.slice A1 n1 c1) f.1 ∧ Mine KB 5 (fun q => col q = 9 + 3 * k) 0 0 w (.slice A2 n2 c2) f.2
/-- The disk in block b, part by part. -/
structure DkB (col : Nat → Nat) (w : World) (b bf bd bx bl : Nat) (A : Option Addr) (n c : Nat) (pt : List Nat) (s : DS) : Prop where
  B : Blk w b (dkL s.rm (some bf) (s.fs.length : Int) (some bd) (some bx) A n c (some bl) s.fu s.lf) 71
  F : MPF w bf (fmapF 0 pt)
  G : MPD w bd s.dir
  X : MPD w bx s.fx
  L : MPL w bl s.ls
  M : Mine KCh 90 (fun q => col q = 6) 0 0 w (.slice A n c) s.chs
  cb : col b = 1
  cf : col bf = 2
  cd : col bd = 3
  cx : col bx = 4
  cl : col bl = 5
  lt : ∀ q, col q ≠ 0 → q < w.heap.size
  pl : pt.length = s.fs.length
  fl : ∀ k p f, pt[k]? = some p → s.fs[k]? = some f → FlR col w k p f
def DkR (col : Nat → Nat) (w : World) (b : Nat) (s : DS) : Prop := ∃ bf bd bx bl A n c pt, DkB col w b bf bd bx bl A n c pt s
theorem DkB.r {col : Nat → Nat} {w : World} {b bf bd bx bl : Nat} {A : Option Addr} {n c : Nat} {pt : List Nat} {s : DS} (h : DkB col w b bf bd bx bl A n c pt s) : DkR col w b s := ⟨bf, bd, bx, bl, A, n, c, pt, h⟩
/-- From world to world: only the disk's blocks have turned. -/
structure Stp (col : Nat → Nat) (w : World) (col' : Nat → Nat) (w' : World) : Prop where
  old : ∀ q, q < w.heap.size → col' q = col q
  ext : Ext (fun q => col q ≠ 0) w w'
theorem Stp.refl (col : Nat → Nat) (w : World) : Stp col w col w := ⟨fun _ _ => rfl, Ext.refl _ _⟩
theorem Stp.trans {c1 c2 c3 : Nat → Nat} {w1 w2 w3 : World} (h : Stp c1 w1 c2 w2) (h' : Stp c2 w2 c3 w3) : Stp c1 w1 c3 w3 :=
  ⟨fun q hq => (h'.old q (Nat.lt_of_lt_of_le hq h.ext.size)).trans (h.old q hq), Ext.trans h.ext h'.ext (fun _ _ x => x) (fun q hq x => by rw [← h.old q hq]; exact x)⟩
theorem Stp.keep {col : Nat → Nat} {w w' : World} (h : Keep w w') : Stp col w col w' := ⟨fun _ _ => rfl, h.mono fun _ _ h => h.elim⟩
section
variable {col col' : Nat → Nat} {w w' : World} {b bf bd bx bl : Nat} {A : Option Addr} {n c : Nat} {pt : List Nat} {s : DS}
theorem FlR.ext {k p : Nat} {f : FILE} (h : FlR col w k p f) {T : Nat → Prop} (x : Ext T w w') (hc : ∀ q, q < w.heap.size → col' q = col q) (hT : ∀ q, q < w.heap.size → T q → col q ≠ 7 + 3 * k ∧ col q ≠ 8 + 3 * k ∧ col q ≠ 9 + 3 * k) : FlR col' w' k p f := by
  obtain ⟨h0, A1, n1, c1, A2, n2, c2, h1, h2, h3⟩ := h
  have cut : ∀ (v : Value) (xs : List UInt8) (j : Nat), (j = 8 + 3 * k ∨ j = 9 + 3 * k) → Mine KB 5 (fun q => col q = j) 0 0 w v xs → Mine KB 5 (fun q => col' q = j) 0 0 w' v xs := fun v xs j hj hm =>
    ((hm.mono (T := fun q => col' q = j ∧ q < w.heap.size) (fun q hq h => ⟨(hc q hq).trans h, hq⟩)).ext x (by omega) (fun q hq ht => by have := hT q hq.2 ht; have := hc q hq.2; omega)).mono (fun _ _ h => h.1)
  have cutR : ∀ (v : Value) (xs : List UInt8) (j : Nat), (j = 8 + 3 * k ∨ j = 9 + 3 * k) → Row KB 5 (fun q => col q = j) 0 0 w v xs → Row KB 5 (fun q => col' q = j) 0 0 w' v xs := fun v xs j hj hm =>
    ((hm.mono (T := fun q => col' q = j ∧ q < w.heap.size) (fun q hq h => ⟨(hc q hq).trans h, hq⟩)).ext x (by omega) (fun q hq ht => by have := hT q hq.2 ht; have := hc q hq.2; omega)).mono (fun _ _ h => h.1)
  exact ⟨(hc p h1.lt).trans h0, A1, n1, c1, A2, n2, c2, h1.ext x (fun ht => (hT p h1.lt ht).1 h0), cutR _ _ _ (.inl rfl) h2, cut _ _ _ (.inr rfl) h3⟩
/-- What is not turned stands; V: the numbers of what may have turned. -/
structure DkP (V : Nat → Prop) (col : Nat → Nat) (w : World) (b bf bd bx bl : Nat) (A : Option Addr) (n c : Nat) (pt : List Nat) (s : DS) : Prop where
  B : ¬ V 1 → Blk w b (dkL s.rm (some bf) (s.fs.length : Int) (some bd) (some bx) A n c (some bl) s.fu s.lf) 71
  F : ¬ V 2 → MPF w bf (fmapF 0 pt)
  G : ¬ V 3 → MPD w bd s.dir
  X : ¬ V 4 → MPD w bx s.fx
  L : ¬ V 5 → MPL w bl s.ls
  M : ¬ V 6 → Mine KCh 90 (fun q => col q = 6) 0 0 w (.slice A n c) s.chs
  cb : col b = 1
  cf : col bf = 2
  cd : col bd = 3
  cx : col bx = 4
  cl : col bl = 5
  pl : pt.length = s.fs.length
  fl : ∀ k p f, pt[k]? = some p → s.fs[k]? = some f → (∀ j, 7 + 3 * k ≤ j → j ≤ 9 + 3 * k → ¬ V j) → FlR col w k p f
theorem DkB.part (h : DkB col w b bf bd bx bl A n c pt s) (V : Nat → Prop) {T : Nat → Prop} (x : Ext T w w') (hc : ∀ q, q < w.heap.size → col' q = col q) (hT : ∀ q, q < w.heap.size → T q → V (col q)) : DkP V col' w' b bf bd bx bl A n c pt s := by
  refine ⟨fun v => h.B.ext x fun t => v ?_, fun v => h.F.ext x fun t => v ?_, fun v => h.G.ext x fun t => v ?_, fun v => h.X.ext x fun t => v ?_, fun v => h.L.ext x fun t => v ?_, fun v => ?_, (hc b h.B.lt).trans h.cb, (hc bf h.F.lt).trans h.cf, (hc bd h.G.lt).trans h.cd, (hc bx h.X.lt).trans h.cx, (hc bl h.L.lt).trans h.cl, h.pl, fun k p f h1 h2 hv => ?_⟩
  · have := hT _ h.B.lt t; rwa [h.cb] at this
  · have := hT _ h.F.lt t; rwa [h.cf] at this
  · have := hT _ h.G.lt t; rwa [h.cd] at this
  · have := hT _ h.X.lt t; rwa [h.cx] at this
  · have := hT _ h.L.lt t; rwa [h.cl] at this
  · exact ((h.M.mono (T := fun q => col' q = 6 ∧ q < w.heap.size) (fun q hq h => ⟨(hc q hq).trans h, hq⟩)).ext x (by omega) (fun q hq ht => v (by have := hT q hq.2 ht; rwa [← hc q hq.2, hq.1] at this))).mono (fun _ _ h => h.1)
  · exact (h.fl k p f h1 h2).ext x hc fun q hq ht => by
      have h3 := hT q hq ht
      refine ⟨fun e => ?_, fun e => ?_, fun e => ?_⟩ <;> rw [e] at h3
      · exact hv _ (by omega) (by omega) h3
      · exact hv _ (by omega) (by omega) h3
      · exact hv _ (by omega) (by omega) h3
theorem DkB.ext (h : DkB col w b bf bd bx bl A n c pt s) {T : Nat → Prop} (x : Ext T w w') (hT : ∀ q, col q ≠ 0 → ¬ T q) : DkB col w' b bf bd bx bl A n c pt s := by
  have p := h.part (fun v => v = 0) x (fun _ _ => rfl) (fun q _ t => Classical.byContradiction fun e => hT q e t)
  exact ⟨p.B (by decide), p.F (by decide), p.G (by decide), p.X (by decide), p.L (by decide), p.M (by decide), p.cb, p.cf, p.cd, p.cx, p.cl, fun q hq => Nat.lt_of_lt_of_le (h.lt q hq) x.size, p.pl, fun k q f h1 h2 => p.fl k q f h1 h2 (fun j _ _ => by omega)⟩
theorem DkB.ne (h : DkB col w b bf bd bx bl A n c pt s) : b ≠ bf ∧ b ≠ bd ∧ b ≠ bx ∧ b ≠ bl ∧ bf ≠ bd ∧ bf ≠ bx ∧ bf ≠ bl ∧ bd ≠ bx ∧ bd ≠ bl ∧ bx ≠ bl := by
  have h1 := h.cb
  have h2 := h.cf
  have h3 := h.cd
  have h4 := h.cx
  have h5 := h.cl
  refine ⟨?_, ?_, ?_, ?_, ?_, ?_, ?_, ?_, ?_, ?_⟩ <;> (intro e; subst e; omega)
theorem DkB.keep (h : DkB col w b bf bd bx bl A n c pt s) (x : Keep w w') : DkB col w' b bf bd bx bl A n c pt s := h.ext x fun _ _ t => t
theorem DkR.ext (h : DkR col w b s) {T : Nat → Prop} (x : Ext T w w') (hT : ∀ q, col q ≠ 0 → ¬ T q) : DkR col w' b s := let ⟨bf, bd, bx, bl, A, n, c, pt, h⟩ := h; ⟨bf, bd, bx, bl, A, n, c, pt, h.ext x hT⟩
theorem DkR.keep (h : DkR col w b s) (x : Keep w w') : DkR col w' b s := h.ext x fun _ _ t => t
theorem DkR.lt (h : DkR col w b s) : ∀ q, col q ≠ 0 → q < w.heap.size := let ⟨_, _, _, _, _, _, _, _, h⟩ := h; h.lt
theorem DkR.cb (h : DkR col w b s) : col b = 1 := let ⟨_, _, _, _, _, _, _, _, h⟩ := h; h.cb
end
/-- New blocks' numbers. -/
def rec' (col : Nat → Nat) (h h' v : Nat) : Nat → Nat := fun q => if q < h then col q else if q < h' then v else 0
theorem rec_old {col : Nat → Nat} {h h' v q : Nat} (hq : q < h) : rec' col h h' v q = col q := by rw [rec', if_pos hq]
theorem rec_new {col : Nat → Nat} {h h' v q : Nat} (hq : h ≤ q) (hq' : q < h') : rec' col h h' v q = v := by rw [rec', if_neg (by omega), if_pos hq']
theorem rec_lt {col : Nat → Nat} {h h' v q : Nat} (hl : ∀ q, col q ≠ 0 → q < h) (hh : h ≤ h') (hq : rec' col h h' v q ≠ 0) : q < h' := by
  rw [rec'] at hq
  split at hq
  · omega
  · split at hq
    · assumption
    · exact absurd rfl hq
/-- What may be. -/
structure DS.Ok (s : DS) : Prop where
  rm : 1 ≤ s.rm ∧ s.rm ≤ 1048576
  dir : ∀ p, p ∈ s.dir → 0 ≤ p.2 ∧ p.2 < s.fs.length ∧ p.1.size ≤ 64
  fx : ∀ p, p ∈ s.fx → 0 ≤ p.2 ∧ p.2 < s.fs.length ∧ p.1.size ≤ 64
  chs : ∀ c, c ∈ s.chs → c.1 = ⟨#[]⟩ → 0 ≤ c.2.2 ∧ c.2.2 < s.fs.length
  chn : ∀ c, c ∈ s.chs → c.2.1 ≠ ⟨#[]⟩ → 0 ≤ c.2.2 ∧ c.2.2 < s.fs.length ∧ c.2.1.size ≤ 64
  fs : ∀ f, f ∈ s.fs → f.1.length ≤ 1048576 ∧ f.2.length ≤ 1048576
  few : s.dir.length ≤ 256
  fewx : s.fx.length ≤ 256
  lf : 0 ≤ s.lf ∧ s.lf ≤ 1048576
  nd : (s.dir.map (·.1)).Nodup
  ndx : (s.fx.map (·.1)).Nodup
def DS.size (s : DS) : Nat := s.fs.length + s.chs.length
def DS.down (s : DS) : Bool := s.fu && decide (s.lf ≤ 0)
def DS.did (s : DS) : DS := { s with lf := if s.fu = true then s.lf - 1 else s.lf }
def DS.note (c : CHG) (s : DS) : DS := { s with dir := trn c s.dir, chs := s.chs ++ [c] }
def rightN (nm : ByteArray) : Bool := decide (nm ≠ ⟨#[]⟩ ∧ nm.size ≤ 64)
end Go.Proofs.YtcdebnppbnmmgaaGreat

namespace Go.Proofs.YtcdebnppbnmmgaaGreat
open Go Go.Proofs.YtcdebnppbnmmgaaGreat.X
set_option linter.unusedVariables false
set_option linter.unusedSimpArgs false
abbrev RF := List UInt8 × List UInt8 × List Int
structure RS where
  rm : Int
  fs : List RF
  dir : DIR
  fx : DIR
  chs : List CHG
  has : Bool
  left : Int
def KRp : Kd Nat := Kd.plain 1 (fun b => [.pointer (some ⟨b, 0, none⟩)]) (fun _ => True) (fun _ => rfl) (fun _ u hu => by simp at hu; subst hu; rfl)
theorem KRp_flat : Flat KRp := fun h => h
theorem repsRp {w : World} (x : Nat) : RepsV KRp w [x] [.pointer (some ⟨x, 0, none⟩)] := ⟨⟨_, rfl, rfl, trivial⟩, trivial⟩
theorem ERp : ElemInfo Tryz.prog 108 1 8 := ElemInfo.of (z := .pointer none) (by kernel_rfl) rfl rfl rfl
abbrev rkL (rm : Int) (vF vD vX vC : Value) (has : Bool) (left : Int) : List Value := [.int .i64 rm, vF, vD, vX, vC, .bool has, .int .i64 left]
structure FlK (col : Nat → Nat) (w : World) (k p : Nat) (v1 v2 v3 : Value) (f : RF) : Prop where
  B : Blk w p [v1, v2, v3] 110
  c : col p = 4 + 3 * k
  M1 : Mine KB 5 (fun q => col q = 5 + 3 * k) 0 0 w v1 f.1
  M2 : Mine KB 5 (fun q => col q = 6 + 3 * k) 0 0 w v2 f.2.1
  M3 : Mine KI 3 (fun q => col q = 3) 0 0 w v3 f.2.2
/-- 1 the disk's block, 2 the files' row, 3 rows that never change, 4+3k a file's block, 5+3k its bytes, 6+3k what is fixed. -/
structure RkB (col : Nat → Nat) (w : World) (x : Nat) (vF vD vX vC : Value) (pt : List Nat) (t : RS) : Prop where
  B : Blk w x (rkL t.rm vF vD vX vC t.has t.left) 83
  F : Mine KRp 108 (fun q => col q = 2) 0 0 w vF pt
  D : Mine KEn 121 (fun q => col q = 3) 0 0 w vD t.dir
  X : Mine KEn 121 (fun q => col q = 3) 0 0 w vX t.fx
  C : Mine KCh 113 (fun q => col q = 3) 0 0 w vC t.chs
  cx : col x = 1
  lt : ∀ q, col q ≠ 0 → q < w.heap.size
  pl : pt.length = t.fs.length
  fl : ∀ k p f, pt[k]? = some p → t.fs[k]? = some f → ∃ v1 v2 v3, FlK col w k p v1 v2 v3 f
def RkR (col : Nat → Nat) (w : World) (x : Nat) (t : RS) : Prop := ∃ vF vD vX vC pt, RkB col w x vF vD vX vC pt t
theorem RkB.r {col : Nat → Nat} {w : World} {x : Nat} {vF vD vX vC : Value} {pt : List Nat} {t : RS} (h : RkB col w x vF vD vX vC pt t) : RkR col w x t := ⟨vF, vD, vX, vC, pt, h⟩
/-- What stands: of the colours V nothing is said. -/
structure RkP (V : Nat → Prop) (col : Nat → Nat) (w : World) (x : Nat) (vF vD vX vC : Value) (pt : List Nat) (t : RS) : Prop where
  B : ¬ V 1 → Blk w x (rkL t.rm vF vD vX vC t.has t.left) 83
  F : ¬ V 2 → Mine KRp 108 (fun q => col q = 2) 0 0 w vF pt
  D : ¬ V 3 → Mine KEn 121 (fun q => col q = 3) 0 0 w vD t.dir
  X : ¬ V 3 → Mine KEn 121 (fun q => col q = 3) 0 0 w vX t.fx
  C : ¬ V 3 → Mine KCh 113 (fun q => col q = 3) 0 0 w vC t.chs
  cx : col x = 1
  pl : pt.length = t.fs.length
  fl : ∀ k p f, pt[k]? = some p → t.fs[k]? = some f → ¬ V 3 → (∀ j, 4 + 3 * k ≤ j → j ≤ 6 + 3 * k → ¬ V j) → ∃ v1 v2 v3, FlK col w k p v1 v2 v3 f
section
variable {col col' : Nat → Nat} {w w' : World} {x : Nat} {vF vD vX vC : Value} {pt : List Nat} {t : RS}
theorem colr {α : Type} {K : Kd α} {e v0 : Nat} {v : Value} {xs : List α} (h : Mine K e (fun q => col q = v0) 0 0 w v xs) {T : Nat → Prop} (y : Ext T w w') (hc : ∀ q, q < w.heap.size → col' q = col q) (hT : ∀ q, q < w.heap.size → T q → col q ≠ v0) : Mine K e (fun q => col' q = v0) 0 0 w' v xs :=
  ((h.mono (T := fun q => col' q = v0 ∧ q < w.heap.size) (fun q hq h => ⟨(hc q hq).trans h, hq⟩)).ext y (by omega) (fun q hq ht => hT q hq.2 ht (by rw [← hc q hq.2]; exact hq.1))).mono (fun _ _ h => h.1)
theorem FlK.ext {k p : Nat} {v1 v2 v3 : Value} {f : RF} (h : FlK col w k p v1 v2 v3 f) {T : Nat → Prop} (y : Ext T w w') (hc : ∀ q, q < w.heap.size → col' q = col q) (hT : ∀ q, q < w.heap.size → T q → col q ≠ 3 ∧ col q ≠ 4 + 3 * k ∧ col q ≠ 5 + 3 * k ∧ col q ≠ 6 + 3 * k) : FlK col' w' k p v1 v2 v3 f :=
  ⟨h.B.ext y fun ht => (hT p h.B.lt ht).2.1 h.c, (hc p h.B.lt).trans h.c, colr h.M1 y hc fun q hq ht => (hT q hq ht).2.2.1, colr h.M2 y hc fun q hq ht => (hT q hq ht).2.2.2, colr h.M3 y hc fun q hq ht => (hT q hq ht).1⟩
theorem RkB.part (h : RkB col w x vF vD vX vC pt t) (V : Nat → Prop) {T : Nat → Prop} (y : Ext T w w') (hc : ∀ q, q < w.heap.size → col' q = col q) (hT : ∀ q, q < w.heap.size → T q → V (col q)) : RkP V col' w' x vF vD vX vC pt t := by
  have hk : ∀ v, ¬ V v → ∀ q, q < w.heap.size → T q → col q ≠ v := fun v hv q hq ht e => hv (by have := hT q hq ht; rwa [e] at this)
  refine ⟨fun v => h.B.ext y fun ht => hk 1 v _ h.B.lt ht h.cx, fun v => colr h.F y hc (hk 2 v), fun v => colr h.D y hc (hk 3 v), fun v => colr h.X y hc (hk 3 v), fun v => colr h.C y hc (hk 3 v), (hc x h.B.lt).trans h.cx, h.pl, fun k p f h1 h2 v3 hv => ?_⟩
  obtain ⟨a1, a2, a3, hf⟩ := h.fl k p f h1 h2
  exact ⟨a1, a2, a3, hf.ext y hc fun q hq ht => ⟨hk 3 v3 q hq ht, hk _ (hv _ (by omega) (by omega)) q hq ht, hk _ (hv _ (by omega) (by omega)) q hq ht, hk _ (hv _ (by omega) (by omega)) q hq ht⟩⟩
theorem RkB.ext (h : RkB col w x vF vD vX vC pt t) {T : Nat → Prop} (y : Ext T w w') (hT : ∀ q, col q ≠ 0 → ¬ T q) : RkB col w' x vF vD vX vC pt t := by
  have p := h.part (fun v => v = 0) y (fun _ _ => rfl) (fun q _ t => Classical.byContradiction fun e => hT q e t)
  exact ⟨p.B (by decide), p.F (by decide), p.D (by decide), p.X (by decide), p.C (by decide), p.cx, fun q hq => Nat.lt_of_lt_of_le (h.lt q hq) y.size, p.pl, fun k q f h1 h2 => p.fl k q f h1 h2 (by decide) (fun j _ _ => by omega)⟩
theorem RkB.keep (h : RkB col w x vF vD vX vC pt t) (y : Keep w w') : RkB col w' x vF vD vX vC pt t := h.ext y fun _ _ t => t
theorem RkR.ext (h : RkR col w x t) {T : Nat → Prop} (y : Ext T w w') (hT : ∀ q, col q ≠ 0 → ¬ T q) : RkR col w' x t := let ⟨vF, vD, vX, vC, pt, h⟩ := h; ⟨vF, vD, vX, vC, pt, h.ext y hT⟩
theorem RkR.keep (h : RkR col w x t) (y : Keep w w') : RkR col w' x t := h.ext y fun _ _ t => t
theorem RkR.lt (h : RkR col w x t) : ∀ q, col q ≠ 0 → q < w.heap.size := let ⟨_, _, _, _, _, h⟩ := h; h.lt
theorem RkR.cx (h : RkR col w x t) : col x = 1 := let ⟨_, _, _, _, _, h⟩ := h; h.cx
end
section
variable {col : Nat → Nat} {w w' : World} {x : Nat} {vF vD vX vC : Value} {pt : List Nat} {t : RS}
/-- The disk's own block is written. -/
theorem RkB.set1 (h : RkB col w x vF vD vX vC pt t) (y : Ext (fun q => q = x) w w') {rm left : Int} {has : Bool} (hB : Blk w' x (rkL rm vF vD vX vC has left) 83) : RkB col w' x vF vD vX vC pt { t with rm := rm, has := has, left := left } := by
  have p := h.part (fun v => v = 1) y (fun _ _ => rfl) (fun q _ ht => by have ht : q = x := ht; rw [ht]; exact h.cx)
  exact ⟨hB, p.F (by decide), p.D (by decide), p.X (by decide), p.C (by decide), p.cx, fun q hq => Nat.lt_of_lt_of_le (h.lt q hq) y.size, p.pl, fun k q f h1 h2 => p.fl k q f h1 h2 (by decide) (fun j _ _ => by omega)⟩
end
def RS.down (t : RS) : Bool := t.has && decide (t.left = 0)
def RS.did (t : RS) : RS := { t with left := if t.has = true then t.left - 1 else t.left }
structure RS.Ok (t : RS) : Prop where
  rm : 1 ≤ t.rm ∧ t.rm ≤ 1048576
  dir : ∀ p, p ∈ t.dir → 0 ≤ p.2 ∧ p.2 < t.fs.length
  fx : ∀ p, p ∈ t.fx → 0 ≤ p.2 ∧ p.2 < t.fs.length
  chs : ∀ c, c ∈ t.chs → c.1 = ⟨#[]⟩ → 0 ≤ c.2.2 ∧ c.2.2 < t.fs.length
  fs : ∀ f, f ∈ t.fs → f.1.length ≤ 1048576 ∧ f.2.1.length ≤ 1048576 ∧ f.2.2.length ≤ 16384 ∧ ∀ s, s ∈ f.2.2 → 0 ≤ s ∧ s < 16384
  few : t.dir.length ≤ 256
  fewx : t.fx.length ≤ 256
  many : t.fs.length ≤ 50000 ∧ t.chs.length ≤ 50000
  left : 0 ≤ t.left ∧ t.left ≤ 1048576
set_option maxHeartbeats 4000000 in
set_option maxRecDepth 100000 in
theorem RDown_c {col : Nat → Nat} {x : Nat} {vF vD vX vC : Value} {pt : List Nat} {t : RS} (w : World) (h : RkB col w x vF vD vX vC pt t) : Ret Tryz.prog 37 #[ptrV x] w fun r w' => r = .bool t.down ∧ Keep w w' := by
  have hB := h.B
  refine X.enter Tryz.func37 rfl Tryz.ntmps37 rfl ?_
  refine X.seq ?_
  refine X.region ?_
  refine X.opw X.wN rfl (X.assign rfl) ?_
  refine X.opsEnd ?_
  refine X.seq ?_
  refine X.region ?_
  refine X.opw X.wN rfl (X.move rfl) ?_
  refine X.opw X.wN rfl (X.nilCk rfl) ?_
  refine X.opw X.wN rfl (X.fldB (j := 5) Tryz.underlying83 rfl rfl Tryz.sizeOf4 rfl) ?_
  refine X.opw X.wN rfl (X.load1B Tryz.isAgg4 hB rfl rfl) ?_
  refine X.opw X.wN rfl (X.move (v := .bool _) rfl) ?_
  refine X.forkO 7 rfl (fun h7 => ?_) (fun h7 => ?_)
  · refine X.opw (X.wG rfl rfl rfl) rfl (X.move rfl) ?_
    refine X.opw (X.wG rfl rfl rfl) rfl (X.nilCk rfl) ?_
    refine X.opw (X.wG rfl rfl rfl) rfl (X.fldB (j := 6) Tryz.underlying83 rfl rfl Tryz.sizeOf3 rfl) ?_
    refine X.opw (X.wG rfl rfl rfl) rfl (X.load1B Tryz.isAgg3 hB rfl rfl) ?_
    refine X.opw (X.wG rfl rfl rfl) rfl (X.eqI rfl rfl) ?_
    refine X.opw X.wN rfl (X.pickT (v := .bool _) rfl rfl) ?_
    refine X.opw X.wN rfl (X.assign (v := .bool _) rfl) ?_
    refine X.opsEnd ?_
    refine X.ret1 (v := (.bool _)) Tryz.func37 Tryz.results37 rfl ?_
    exact ⟨by rw [RS.down, h7]; rfl, (Keep.refl _)⟩
  · refine X.opS rfl rfl rfl rfl rfl ?_
    refine X.opS rfl rfl rfl rfl rfl ?_
    refine X.opS rfl rfl rfl rfl rfl ?_
    refine X.opS rfl rfl rfl rfl rfl ?_
    refine X.opS rfl rfl rfl rfl rfl ?_
    refine X.opw X.wN rfl (X.pickF (v := .bool false) rfl rfl) ?_
    refine X.opw X.wN rfl (X.assign (v := .bool false) rfl) ?_
    refine X.opsEnd ?_
    refine X.ret1 (v := (.bool _)) Tryz.func37 Tryz.results37 rfl ?_
    exact ⟨by rw [RS.down, h7]; rfl, (Keep.refl _)⟩
set_option maxHeartbeats 4000000 in
set_option maxRecDepth 100000 in
theorem Rdid_c {col : Nat → Nat} {x : Nat} {vF vD vX vC : Value} {pt : List Nat} {t : RS} (w : World) (h : RkB col w x vF vD vX vC pt t) (hl : -1 ≤ t.left ∧ t.left ≤ 1048576) : Ret Tryz.prog 58 #[ptrV x] w fun r w' => r = .int .i64 0 ∧ RkB col w' x vF vD vX vC pt t.did ∧ Ext (fun q => q = x) w w' := by
  have hB := h.B
  refine X.enter Tryz.func58 rfl Tryz.ntmps58 rfl ?_
  refine X.seq ?_
  refine X.region ?_
  refine X.opw X.wN rfl (X.assign rfl) ?_
  refine X.opsEnd ?_
  refine X.seq ?_
  refine X.seq ?_
  refine X.region ?_
  refine X.opw X.wN rfl (X.move rfl) ?_
  refine X.opw X.wN rfl (X.nilCk rfl) ?_
  refine X.opw X.wN rfl (X.fldB (j := 5) Tryz.underlying83 rfl rfl Tryz.sizeOf4 rfl) ?_
  refine X.opw X.wN rfl (X.load1B Tryz.isAgg4 hB rfl rfl) ?_
  refine X.opsEnd ?_
  refine X.condB rfl (fun hc => ?_) (fun hc => ?_)
  · refine X.region ?_
    refine X.opw X.wN rfl (X.move rfl) ?_
    refine X.opw X.wN rfl (X.nilCk rfl) ?_
    refine X.opw X.wN rfl (X.fldB (j := 6) Tryz.underlying83 rfl rfl Tryz.sizeOf3 rfl) ?_
    refine X.opw X.wN rfl (X.load1B Tryz.isAgg3 hB rfl rfl) ?_
    refine X.opw X.wN rfl (X.sub rfl rfl (X.w_i64 (by omega))) ?_
    refine X.opw X.wN rfl (X.nilCk rfl) ?_
    refine X.opw X.wN rfl (X.fldB (j := 6) Tryz.underlying83 rfl rfl Tryz.sizeOf3 rfl) ?_
    refine X.opE X.wN rfl (X.storeE Tryz.sizeOf3 hB rfl rfl rfl rfl) ?_
    rintro _ w1 ⟨hB1, hx1, hz1⟩
    refine X.opsEnd ?_
    refine X.seq ?_
    refine X.region ?_
    refine X.opw X.wN rfl (X.assign rfl) ?_
    refine X.opsEnd ?_
    refine X.ret1 (v := (.int .i64 _)) Tryz.func58 Tryz.results58 rfl ?_
    have e : t.did = { t with rm := t.rm, has := t.has, left := t.left - 1 } := by rw [RS.did, if_pos hc]
    rw [e]
    exact ⟨rfl, h.set1 hx1 hB1, hx1⟩
  · refine X.skip ?_
    refine X.seq ?_
    refine X.region ?_
    refine X.opw X.wN rfl (X.assign rfl) ?_
    refine X.opsEnd ?_
    refine X.ret1 (v := (.int .i64 _)) Tryz.func58 Tryz.results58 rfl ?_
    have e : t.did = t := by rw [RS.did, if_neg (by rw [hc]; decide)]
    rw [e]
    exact ⟨rfl, h.keep (Keep.refl _), ((Keep.refl _)).mono (fun _ _ h => h.elim)⟩
set_option maxHeartbeats 4000000 in
set_option maxRecDepth 100000 in
theorem Rsectors_c (n : Nat) (w : World) (hn : n ≤ 1000000000) : Ret Tryz.prog 59 #[.int .i64 (n : Int)] w fun r w' => r = .int .i64 (((n + 63) / 64 : Nat) : Int) ∧ Keep w w' := by
  refine X.enter Tryz.func59 rfl Tryz.ntmps59 rfl ?_
  refine X.seq ?_
  refine X.region ?_
  refine X.opw X.wN rfl (X.assign rfl) ?_
  refine X.opsEnd ?_
  refine X.seq ?_
  refine X.region ?_
  refine X.opw X.wN rfl (X.move (v := .int .i64 _) rfl) ?_
  refine X.opw X.wN rfl (X.add rfl rfl (X.w_i64 (by omega))) ?_
  refine X.opw X.wN rfl (X.sub rfl rfl (X.w_i64 (by omega))) ?_
  refine X.opw X.wN rfl (X.quo (c := (((n + 63) / 64 : Nat) : Int)) rfl rfl (by decide) (by rw [show ((n : Int) + 64 - 1).tdiv 64 = (((n + 63) / 64 : Nat) : Int) by rw [show (n : Int) + 64 - 1 = ((n + 63 : Nat) : Int) by omega]; rfl]; exact X.w_i64 (by omega))) ?_
  refine X.opw X.wN rfl (X.assign (v := .int .i64 _) rfl) ?_
  refine X.opsEnd ?_
  refine X.ret1 (v := (.int .i64 _)) Tryz.func59 Tryz.results59 rfl ?_
  exact ⟨rfl, (Keep.refl _)⟩
end Go.Proofs.YtcdebnppbnmmgaaGreat

namespace Go.Proofs.YtcdebnppbnmmgaaGreat
open Go Go.Proofs.YtcdebnppbnmmgaaGreat.X
set_option linter.unusedVariables false
set_option linter.unusedSimpArgs false
theorem m0 {α : Type} {K : Kd α} (hF : Flat K) {e : TypeId} {S : Nat → Prop} {w : World} {A : Option Addr} {n c : Nat} {xs : List α} (h : Mine K e S 0 0 w (.slice A n c) xs) : Sl K 0 w.heap.size w A n xs := by
  obtain ⟨A', c', e1, _, hs⟩ := h.slF hF 0 (fun _ _ => Nat.zero_le _)
  injection e1 with q1 q2 q3
  rw [← q1, ← q2] at hs
  exact hs
def RS.note (c : CHG) (t : RS) : RS := { t with dir := rapply c t.dir, chs := t.chs ++ [c] }
set_option maxHeartbeats 4000000 in
set_option maxRecDepth 100000 in
theorem change_c {col : Nat → Nat} {x : Nat} {vF vD vX vC : Value} {pt : List Nat} {t : RS} (c : CHG) (w : World) (h : RkB col w x vF vD vX vC pt t) (hn : t.dir.length ≤ 10000 ∧ t.chs.length ≤ 100000) : Ret Tryz.prog 57 #[ptrV x, evCh c] w fun r w' => r = .tuple #[] ∧ ∃ vD' vC' col', (∀ q, q < w.heap.size → col' q = col q) ∧ (∀ q, w.heap.size ≤ q → q < w'.heap.size → col' q = 3) ∧ RkB col' w' x vF vD' vX vC' pt (t.note c) ∧ Ext (fun q => q = x) w w' := by
  obtain ⟨AD, cD, e, hcD, hsD⟩ := h.D.slF KEn_flat 0 (fun _ _ => Nat.zero_le _)
  subst e
  obtain ⟨AC, cC, e, hcC, hsC⟩ := h.C.slF KCh_flat 0 (fun _ _ => Nat.zero_le _)
  subst e
  obtain ⟨AF, cF, e, hcF, hsF⟩ := h.F.slF KRp_flat 0 (fun _ _ => Nat.zero_le _)
  subst e
  have hB := h.B
  have hxl := h.B.lt
  have hlt := h.lt
  have hcx := h.cx
  refine X.enter Tryz.func57 rfl Tryz.ntmps57 rfl ?_
  refine X.seq ?_
  refine X.region ?_
  refine X.opE X.wN rfl (X.boxE rfl rfl) ?_
  rintro _ w1 ⟨rfl, hB1, hk1, hz1⟩
  refine X.opsEnd ?_
  refine X.seq ?_
  refine X.regionD (fun k => w1.heap.size ≤ k) 7 (by kernel_rfl) (by kernel_rfl) (fun w2 hk2 hz2 => ?_)
  refine X.dTake 0 rfl (by kernel_rfl) (by kernel_rfl) (by kernel_rfl) (X.dwN rfl) (fun w' hk' => X.move rfl) ?_
  refine X.dTake 1 rfl (by kernel_rfl) (by kernel_rfl) (by kernel_rfl) (X.dwN rfl) (fun w' hk' => X.move rfl) ?_
  refine X.dTake 2 rfl (by kernel_rfl) (by kernel_rfl) (by kernel_rfl) (X.dwN rfl) (fun w' hk' => X.nilCk rfl) ?_
  refine X.dTake 3 rfl (by kernel_rfl) (by kernel_rfl) (by kernel_rfl) (X.dwN rfl) (fun w' hk' => X.fldB (j := 2) Tryz.underlying83 rfl rfl Tryz.sizeOf80 rfl) ?_
  refine X.dTake 4 rfl (by kernel_rfl) (by kernel_rfl) (by kernel_rfl) (X.dwN rfl) (fun w' hk' => X.load1B Tryz.isAgg80 ((hB.keep (hk1.trans hk2)).ext hk' (by first | (intro q g1 g2 g3; first | (have g3 : q = _ := g3; omega) | (have g3 : _ ≤ q := g3; omega) | omega) | (intro hh; first | (have hh : _ = _ := hh; omega) | (have hh : _ ≤ _ := hh; omega)) | (intros; omega) | (intro q g1 g2; first | (have g2 : q = _ := g2; omega) | (have g2 : _ ≤ q := g2; omega)))) rfl rfl) ?_
  refine X.dTake 5 rfl (by kernel_rfl) (by kernel_rfl) (by kernel_rfl) (X.dwN rfl) (fun w' hk' => X.loadNB Tryz.isAgg113 Tryz.sizeOf113 ((hB1.keep hk2).ext hk' (by first | (intro q g1 g2 g3; first | (have g3 : q = _ := g3; omega) | (have g3 : _ ≤ q := g3; omega) | omega) | (intro hh; first | (have hh : _ = _ := hh; omega) | (have hh : _ ≤ _ := hh; omega)) | (intros; omega) | (intro q g1 g2; first | (have g2 : q = _ := g2; omega) | (have g2 : _ ≤ q := g2; omega)))) rfl rfl rfl) ?_
  refine X.dE (i := 6) (by kernel_rfl) rfl (X.dwN rfl) (X.callE (apply_c c _ (hsD.keep (hk1.trans hk2)) (by omega)) Tryz.call63 rfl rfl) (by rintro vA w3 ⟨hA, hk3⟩ _; exact hk3.mono (fun _ _ h => h.elim)) ?_
  rintro vA w3 ⟨hA, hk3⟩
  have hk3' := hk3.size
  refine X.dStep (i := 7) (by kernel_rfl) rfl (X.dwN rfl) (X.nilCk rfl) (fun h => absurd h (by decide)) ?_
  refine X.dStep (i := 8) (by kernel_rfl) rfl (X.dwN rfl) (X.fldB (j := 2) Tryz.underlying83 rfl rfl Tryz.sizeOf80 rfl) (fun h => absurd h (by decide)) ?_
  refine X.dE (i := 9) (by kernel_rfl) rfl (X.dwN rfl) (X.storeE Tryz.sizeOf80 (hB.keep ((hk1.trans hk2).trans hk3)) rfl rfl rfl (hA.elim (fun h => by rw [h.1]; rfl) (fun h => by obtain ⟨A', c', e, _⟩ := h.slice; rw [e]; rfl))) (fun _ _ _ h => absurd h (by decide)) ?_
  rintro _ w4 ⟨hB4, hx4, hz4⟩
  refine X.dEnd (by kernel_rfl) ?_
  refine X.regionD (fun k => w4.heap.size ≤ k) 10 (by kernel_rfl) (by kernel_rfl) (fun w5 hk5 hz5 => ?_)
  refine X.dTake 0 rfl (by kernel_rfl) (by kernel_rfl) (by kernel_rfl) (X.dwN rfl) (fun w' hk' => X.move rfl) ?_
  refine X.dTake 2 rfl (by kernel_rfl) (by kernel_rfl) (by kernel_rfl) (X.dwN rfl) (fun w' hk' => X.move rfl) ?_
  refine X.dTake 3 rfl (by kernel_rfl) (by kernel_rfl) (by kernel_rfl) (X.dwN rfl) (fun w' hk' => X.nilCk rfl) ?_
  refine X.dTake 4 rfl (by kernel_rfl) (by kernel_rfl) (by kernel_rfl) (X.dwN rfl) (fun w' hk' => X.fldB (j := 4) Tryz.underlying83 rfl rfl Tryz.sizeOf81 rfl) ?_
  refine X.dTake 5 rfl (by kernel_rfl) (by kernel_rfl) (by kernel_rfl) (X.dwN rfl) (fun w' hk' => X.load1B Tryz.isAgg81 ((hB4.keep hk5).ext hk' (by first | (intro q g1 g2 g3; first | (have g3 : q = _ := g3; omega) | (have g3 : _ ≤ q := g3; omega) | omega) | (intro hh; first | (have hh : _ = _ := hh; omega) | (have hh : _ ≤ _ := hh; omega)) | (intros; omega) | (intro q g1 g2; first | (have g2 : q = _ := g2; omega) | (have g2 : _ ≤ q := g2; omega)))) rfl rfl) ?_
  refine X.dTake 7 rfl (by kernel_rfl) (by kernel_rfl) (by kernel_rfl) (X.dwN rfl) (fun w' hk' => X.loadNB Tryz.isAgg113 Tryz.sizeOf113 ((((hB1.keep (hk2.trans hk3)).ext hx4 (by first | (intro q g1 g2 g3; first | (have g3 : q = _ := g3; omega) | (have g3 : _ ≤ q := g3; omega) | omega) | (intro hh; first | (have hh : _ = _ := hh; omega) | (have hh : _ ≤ _ := hh; omega)) | (intros; omega) | (intro q g1 g2; first | (have g2 : q = _ := g2; omega) | (have g2 : _ ≤ q := g2; omega)))).keep hk5).ext hk' (by first | (intro q g1 g2 g3; first | (have g3 : q = _ := g3; omega) | (have g3 : _ ≤ q := g3; omega) | omega) | (intro hh; first | (have hh : _ = _ := hh; omega) | (have hh : _ ≤ _ := hh; omega)) | (intros; omega) | (intro q g1 g2; first | (have g2 : q = _ := g2; omega) | (have g2 : _ ≤ q := g2; omega)))) rfl rfl rfl) ?_
  refine X.dTwo (i := 1) (j := 8) (by kernel_rfl) ?_ ?_
  · refine X.d1E (i := 1) rfl (X.dwN rfl) (X.lit0E (K := KCh) (S := fun k => w5.heap.size ≤ k) Tryz.underlying81 Tryz.sizeOf113 (by intros; (try simp only [] at *); omega)) (by rintro v6 w6 ⟨hM6, hk6, hz6⟩ _; exact hk6.mono (fun _ _ h => h.elim)) ?_
    rintro v6 w6 ⟨hM6, hk6, hz6⟩
    refine X.dTwo (i := 6) (j := 8) (by kernel_rfl) ?_ ?_
    · refine X.d1E (i := 6) rfl (X.dwN rfl) (X.appE (K := KCh) (S := fun k => w5.heap.size ≤ k) KCh_flat Tryz.underlying81 ERc rfl rfl hM6 ((m0 KCh_flat (((((h.C.keep hk1).keep hk2).keep hk3).ext hx4 (by intros; omega) (by intro q g1 g2; (try dsimp only at g1); (try dsimp only at g2); first | omega | (have g2 : q = _ := g2; subst g2; omega) | (subst g2; omega))).keep hk5)).keep hk6) (by (try simp only [List.length_append, List.length_cons, List.length_nil, List.length_take, List.length_drop, List.length_map, List.length_range]); omega) (by intros; (try simp only [] at *); omega)) (by rintro v7 w7 ⟨hM7, hx7⟩ _; exact hx7.mono (fun k _ h => by (try simp only [] at *); omega)) ?_
      rintro v7 w7 ⟨hM7, hx7⟩
      have hx7' := hx7.size
      refine X.dE (i := 8) (by kernel_rfl) rfl (X.dwN rfl) (X.litKF KCh_flat (K := KCh) (xs := [Operand.tmp 20]) (vs := [evCh c]) (ys := [c]) Tryz.underlying81 Tryz.sizeOf113 Tryz.zeroValue113 rfl rfl rfl rfl rfl (repsCh _)) (by rintro _ w8 ⟨rfl, hs8, hB8, hk8, hz8⟩ _; exact hk8.mono (fun _ _ h => h.elim)) ?_
      rintro _ w8 ⟨rfl, hs8, hB8, hk8, hz8⟩
      refine X.dE (i := 9) (by kernel_rfl) rfl (X.dwN rfl) (X.appE (K := KCh) (S := fun k => w5.heap.size ≤ k) KCh_flat Tryz.underlying81 ERc rfl rfl (Mine.mono (T := fun k => w5.heap.size ≤ k) (hM7.keep hk8) (fun k h1 h2 => by (try simp only [] at *); omega)) hs8 (by (try simp only [List.length_append, List.length_cons, List.length_nil, List.length_take, List.length_drop, List.length_map, List.length_range]); omega) (by intros; (try simp only [] at *); omega)) (by rintro v9 w9 ⟨hM9, hx9⟩ _; exact hx9.mono (fun k _ h => by (try simp only [] at *); omega)) ?_
      rintro v9 w9 ⟨hM9, hx9⟩
      have hx9' := hx9.size
      refine X.dStep (i := 10) (by kernel_rfl) rfl (X.dwN rfl) (X.nilCk rfl) (fun h => absurd h (by decide)) ?_
      refine X.dStep (i := 11) (by kernel_rfl) rfl (X.dwN rfl) (X.fldB (j := 4) Tryz.underlying83 rfl rfl Tryz.sizeOf81 rfl) (fun h => absurd h (by decide)) ?_
      have q10 := hM9.slF KCh_flat 0 (fun _ _ => Nat.zero_le _)
      obtain ⟨A10, c10, rfl, hc10, hs10⟩ := q10
      refine X.dE (i := 12) (by kernel_rfl) rfl (X.dwN rfl) (X.storeE Tryz.sizeOf81 (hB4.keep ((((hk5.trans hk6).step hx7 (by intros; (try simp only [] at *); omega)).trans hk8).step hx9 (by intros; (try simp only [] at *); omega))) rfl rfl rfl (by obtain ⟨A', c', e, _⟩ := (hM9).slice; rw [e]; rfl)) (fun _ _ _ h => absurd h (by decide)) ?_
      rintro _ w11 ⟨hB11, hx11, hz11⟩
      refine X.dEnd (by kernel_rfl) ?_
      refine X.end0 Tryz.func57 Tryz.results57 ?_
      have hx : Ext (fun q => col q = 1) w w11 := (Ext.andThen (Ext.andThen (Ext.andThen (Ext.andThen (Ext.andThen (Ext.andThen (Ext.andThen (Ext.andThen (Ext.andThen (Ext.andThen (Ext.refl (fun q => col q = 1) _) hk1 (by intro q h1 h2; first | exact (h2 : False).elim | exact h2 | (have h2 : q = _ := h2; subst h2; omega) | (have h2 : _ ≤ q := h2; omega) | (have h2 : _ ≤ q ∧ _ := h2; omega) | (rcases h2 with h2 | h2 | h2 <;> first | omega | (subst h2; omega)) | (rcases h2 with h2 | h2 <;> first | omega | (subst h2; omega)))) hk2 (by intro q h1 h2; first | exact (h2 : False).elim | exact h2 | (have h2 : q = _ := h2; subst h2; omega) | (have h2 : _ ≤ q := h2; omega) | (have h2 : _ ≤ q ∧ _ := h2; omega) | (rcases h2 with h2 | h2 | h2 <;> first | omega | (subst h2; omega)) | (rcases h2 with h2 | h2 <;> first | omega | (subst h2; omega)))) hk3 (by intro q h1 h2; first | exact (h2 : False).elim | exact h2 | (have h2 : q = _ := h2; subst h2; omega) | (have h2 : _ ≤ q := h2; omega) | (have h2 : _ ≤ q ∧ _ := h2; omega) | (rcases h2 with h2 | h2 | h2 <;> first | omega | (subst h2; omega)) | (rcases h2 with h2 | h2 <;> first | omega | (subst h2; omega)))) hx4 (by intro q h1 h2; first | exact (h2 : False).elim | exact h2 | (have h2 : q = _ := h2; subst h2; omega) | (have h2 : _ ≤ q := h2; omega) | (have h2 : _ ≤ q ∧ _ := h2; omega) | (rcases h2 with h2 | h2 | h2 <;> first | omega | (subst h2; omega)) | (rcases h2 with h2 | h2 <;> first | omega | (subst h2; omega)))) hk5 (by intro q h1 h2; first | exact (h2 : False).elim | exact h2 | (have h2 : q = _ := h2; subst h2; omega) | (have h2 : _ ≤ q := h2; omega) | (have h2 : _ ≤ q ∧ _ := h2; omega) | (rcases h2 with h2 | h2 | h2 <;> first | omega | (subst h2; omega)) | (rcases h2 with h2 | h2 <;> first | omega | (subst h2; omega)))) hk6 (by intro q h1 h2; first | exact (h2 : False).elim | exact h2 | (have h2 : q = _ := h2; subst h2; omega) | (have h2 : _ ≤ q := h2; omega) | (have h2 : _ ≤ q ∧ _ := h2; omega) | (rcases h2 with h2 | h2 | h2 <;> first | omega | (subst h2; omega)) | (rcases h2 with h2 | h2 <;> first | omega | (subst h2; omega)))) hx7 (by intro q h1 h2; first | exact (h2 : False).elim | exact h2 | (have h2 : q = _ := h2; subst h2; omega) | (have h2 : _ ≤ q := h2; omega) | (have h2 : _ ≤ q ∧ _ := h2; omega) | (rcases h2 with h2 | h2 | h2 <;> first | omega | (subst h2; omega)) | (rcases h2 with h2 | h2 <;> first | omega | (subst h2; omega)))) hk8 (by intro q h1 h2; first | exact (h2 : False).elim | exact h2 | (have h2 : q = _ := h2; subst h2; omega) | (have h2 : _ ≤ q := h2; omega) | (have h2 : _ ≤ q ∧ _ := h2; omega) | (rcases h2 with h2 | h2 | h2 <;> first | omega | (subst h2; omega)) | (rcases h2 with h2 | h2 <;> first | omega | (subst h2; omega)))) hx9 (by intro q h1 h2; first | exact (h2 : False).elim | exact h2 | (have h2 : q = _ := h2; subst h2; omega) | (have h2 : _ ≤ q := h2; omega) | (have h2 : _ ≤ q ∧ _ := h2; omega) | (rcases h2 with h2 | h2 | h2 <;> first | omega | (subst h2; omega)) | (rcases h2 with h2 | h2 <;> first | omega | (subst h2; omega)))) hx11 (by intro q h1 h2; first | exact (h2 : False).elim | exact h2 | (have h2 : q = _ := h2; subst h2; omega) | (have h2 : _ ≤ q := h2; omega) | (have h2 : _ ≤ q ∧ _ := h2; omega) | (rcases h2 with h2 | h2 | h2 <;> first | omega | (subst h2; omega)) | (rcases h2 with h2 | h2 <;> first | omega | (subst h2; omega))))
      have hxs := hx.size
      obtain ⟨col', hcol⟩ : ∃ col', col' = rec' col w.heap.size w11.heap.size (3) := ⟨_, rfl⟩
      have hold : ∀ q, q < w.heap.size → col' q = col q := fun q hq => by rw [hcol]; exact rec_old hq
      have hnew : ∀ q, w.heap.size ≤ q → q < w11.heap.size → col' q = 3 := fun q h1 h2 => by rw [hcol]; exact rec_new h1 h2
      have hltc : ∀ q, col' q ≠ 0 → q < w11.heap.size := fun q hq => by rw [hcol] at hq; exact rec_lt hlt hxs hq
      have P := h.part (col' := col') (fun v => v = 1) hx hold (fun q hq ht => ht)
      have hst : Stp col w col' w11 := ⟨hold, hx.mono (fun q _ t => by (try simp only [] at t); omega)⟩
      have hD' : Mine KEn 121 (fun q => col' q = 3) 0 0 w11 vA (rapply c t.dir) := by
        rcases hA with ⟨e1, e2⟩ | hMA
        · rw [e1, e2]; exact P.D (by decide)
        · exact (((((((((hMA.mono (T := fun q => w.heap.size ≤ q ∧ q < w3.heap.size) (fun q hq hS => ⟨by (have hS : _ ≤ q := hS); omega, hq⟩)).ext hx4 (by intros; omega) (by intro q g1 g2; (try dsimp only at g1); (try dsimp only at g2); first | omega | (have g2 : q = _ := g2; subst g2; omega) | (subst g2; omega))).keep hk5).keep hk6).ext hx7 (by intros; omega) (by intro q g1 g2; (try dsimp only at g1); (try dsimp only at g2); first | omega | (have g2 : q = _ := g2; subst g2; omega) | (subst g2; omega))).keep hk8).ext hx9 (by intros; omega) (by intro q g1 g2; (try dsimp only at g1); (try dsimp only at g2); first | omega | (have g2 : q = _ := g2; subst g2; omega) | (subst g2; omega))).ext hx11 (by intros; omega) (by intro q g1 g2; (try dsimp only at g1); (try dsimp only at g2); first | omega | (have g2 : q = _ := g2; subst g2; omega) | (subst g2; omega)))).mono (fun q hq hS => hnew q hS.1 hq)
      refine ⟨rfl, _, _, col', hold, hnew, ⟨hB11, P.F (by decide), hD', P.X (by decide), ((hM9.ext hx11 (by first | (intro q g1 g2 g3; first | (have g3 : q = _ := g3; omega) | (have g3 : _ ≤ q := g3; omega) | omega) | (intro hh; first | (have hh : _ = _ := hh; omega) | (have hh : _ ≤ _ := hh; omega)) | (intros; omega) | (intro q g1 g2; first | (have g2 : q = _ := g2; omega) | (have g2 : _ ≤ q := g2; omega))) (by first | (intro q g1 g2 g3; first | (have g3 : q = _ := g3; omega) | (have g3 : _ ≤ q := g3; omega) | omega) | (intro hh; first | (have hh : _ = _ := hh; omega) | (have hh : _ ≤ _ := hh; omega)) | (intros; omega) | (intro q g1 g2; first | (have g2 : q = _ := g2; omega) | (have g2 : _ ≤ q := g2; omega))))).mono (fun q hq hS => hnew q (by have hS : _ ≤ q := hS; omega) hq), P.cx, hltc, P.pl, fun k p f h1 h2 => P.fl k p f h1 h2 (by decide) (fun j _ _ => by omega)⟩, (Ext.andThen (Ext.andThen (Ext.andThen (Ext.andThen (Ext.andThen (Ext.andThen (Ext.andThen (Ext.andThen (Ext.andThen (Ext.andThen (Ext.refl (fun q => q = x) _) hk1 (by intro q h1 h2; first | exact (h2 : False).elim | ((try simp only [] at h2); omega))) hk2 (by intro q h1 h2; first | exact (h2 : False).elim | ((try simp only [] at h2); omega))) hk3 (by intro q h1 h2; first | exact (h2 : False).elim | ((try simp only [] at h2); omega))) hx4 (by intro q h1 h2; first | exact (h2 : False).elim | ((try simp only [] at h2); omega))) hk5 (by intro q h1 h2; first | exact (h2 : False).elim | ((try simp only [] at h2); omega))) hk6 (by intro q h1 h2; first | exact (h2 : False).elim | ((try simp only [] at h2); omega))) hx7 (by intro q h1 h2; first | exact (h2 : False).elim | ((try simp only [] at h2); omega))) hk8 (by intro q h1 h2; first | exact (h2 : False).elim | ((try simp only [] at h2); omega))) hx9 (by intro q h1 h2; first | exact (h2 : False).elim | ((try simp only [] at h2); omega))) hx11 (by intro q h1 h2; first | exact (h2 : False).elim | ((try simp only [] at h2); omega)))⟩
    · refine X.d1E (i := 8) rfl (X.dwN rfl) (X.litKF KCh_flat (K := KCh) (xs := [Operand.tmp 20]) (vs := [evCh c]) (ys := [c]) Tryz.underlying81 Tryz.sizeOf113 Tryz.zeroValue113 rfl rfl rfl rfl rfl (repsCh _)) (by rintro _ w12 ⟨rfl, hs12, hB12, hk12, hz12⟩ _; exact hk12.mono (fun _ _ h => h.elim)) ?_
      rintro _ w12 ⟨rfl, hs12, hB12, hk12, hz12⟩
      refine X.dE (i := 6) (by kernel_rfl) rfl (X.dwN rfl) (X.appE (K := KCh) (S := fun k => w5.heap.size ≤ k ∧ k ≠ w6.heap.size) KCh_flat Tryz.underlying81 ERc rfl rfl ((Mine.mono (T := fun k => w5.heap.size ≤ k ∧ k ≠ w6.heap.size) hM6 (fun k h1 h2 => by (try simp only [] at *); omega)).keep hk12) ((m0 KCh_flat (((((h.C.keep hk1).keep hk2).keep hk3).ext hx4 (by intros; omega) (by intro q g1 g2; (try dsimp only at g1); (try dsimp only at g2); first | omega | (have g2 : q = _ := g2; subst g2; omega) | (subst g2; omega))).keep hk5)).keep (hk6.trans hk12)) (by (try simp only [List.length_append, List.length_cons, List.length_nil, List.length_take, List.length_drop, List.length_map, List.length_range]); omega) (by intros; (try simp only [] at *); omega)) (by rintro v13 w13 ⟨hM13, hx13⟩ _; exact hx13.mono (fun k _ h => by (try simp only [] at *); omega)) ?_
      rintro v13 w13 ⟨hM13, hx13⟩
      replace hM13 := Mine.mono (T := fun k => w5.heap.size ≤ k) hM13 (fun k _ h => by (try simp only [] at *); omega)
      have hx13' := hx13.size
      refine X.dE (i := 9) (by kernel_rfl) rfl (X.dwN rfl) (X.appE (K := KCh) (S := fun k => w5.heap.size ≤ k) KCh_flat Tryz.underlying81 ERc rfl rfl (Mine.mono (T := fun k => w5.heap.size ≤ k) hM13 (fun k h1 h2 => by (try simp only [] at *); omega)) (hs12.ext hx13 (by first | (intro q g1 g2 g3; first | (have g3 : q = _ := g3; omega) | (have g3 : _ ≤ q := g3; omega) | omega) | (intro hh; first | (have hh : _ = _ := hh; omega) | (have hh : _ ≤ _ := hh; omega)) | (intros; omega) | (intro q g1 g2; first | (have g2 : q = _ := g2; omega) | (have g2 : _ ≤ q := g2; omega)))) (by (try simp only [List.length_append, List.length_cons, List.length_nil, List.length_take, List.length_drop, List.length_map, List.length_range]); omega) (by intros; (try simp only [] at *); omega)) (by rintro v14 w14 ⟨hM14, hx14⟩ _; exact hx14.mono (fun k _ h => by (try simp only [] at *); omega)) ?_
      rintro v14 w14 ⟨hM14, hx14⟩
      have hx14' := hx14.size
      refine X.dStep (i := 10) (by kernel_rfl) rfl (X.dwN rfl) (X.nilCk rfl) (fun h => absurd h (by decide)) ?_
      refine X.dStep (i := 11) (by kernel_rfl) rfl (X.dwN rfl) (X.fldB (j := 4) Tryz.underlying83 rfl rfl Tryz.sizeOf81 rfl) (fun h => absurd h (by decide)) ?_
      have q15 := hM14.slF KCh_flat 0 (fun _ _ => Nat.zero_le _)
      obtain ⟨A15, c15, rfl, hc15, hs15⟩ := q15
      refine X.dE (i := 12) (by kernel_rfl) rfl (X.dwN rfl) (X.storeE Tryz.sizeOf81 (hB4.keep ((((hk5.trans hk6).trans hk12).step hx13 (by intros; (try simp only [] at *); omega)).step hx14 (by intros; (try simp only [] at *); omega))) rfl rfl rfl (by obtain ⟨A', c', e, _⟩ := (hM14).slice; rw [e]; rfl)) (fun _ _ _ h => absurd h (by decide)) ?_
      rintro _ w16 ⟨hB16, hx16, hz16⟩
      refine X.dEnd (by kernel_rfl) ?_
      refine X.end0 Tryz.func57 Tryz.results57 ?_
      have hx : Ext (fun q => col q = 1) w w16 := (Ext.andThen (Ext.andThen (Ext.andThen (Ext.andThen (Ext.andThen (Ext.andThen (Ext.andThen (Ext.andThen (Ext.andThen (Ext.andThen (Ext.refl (fun q => col q = 1) _) hk1 (by intro q h1 h2; first | exact (h2 : False).elim | exact h2 | (have h2 : q = _ := h2; subst h2; omega) | (have h2 : _ ≤ q := h2; omega) | (have h2 : _ ≤ q ∧ _ := h2; omega) | (rcases h2 with h2 | h2 | h2 <;> first | omega | (subst h2; omega)) | (rcases h2 with h2 | h2 <;> first | omega | (subst h2; omega)))) hk2 (by intro q h1 h2; first | exact (h2 : False).elim | exact h2 | (have h2 : q = _ := h2; subst h2; omega) | (have h2 : _ ≤ q := h2; omega) | (have h2 : _ ≤ q ∧ _ := h2; omega) | (rcases h2 with h2 | h2 | h2 <;> first | omega | (subst h2; omega)) | (rcases h2 with h2 | h2 <;> first | omega | (subst h2; omega)))) hk3 (by intro q h1 h2; first | exact (h2 : False).elim | exact h2 | (have h2 : q = _ := h2; subst h2; omega) | (have h2 : _ ≤ q := h2; omega) | (have h2 : _ ≤ q ∧ _ := h2; omega) | (rcases h2 with h2 | h2 | h2 <;> first | omega | (subst h2; omega)) | (rcases h2 with h2 | h2 <;> first | omega | (subst h2; omega)))) hx4 (by intro q h1 h2; first | exact (h2 : False).elim | exact h2 | (have h2 : q = _ := h2; subst h2; omega) | (have h2 : _ ≤ q := h2; omega) | (have h2 : _ ≤ q ∧ _ := h2; omega) | (rcases h2 with h2 | h2 | h2 <;> first | omega | (subst h2; omega)) | (rcases h2 with h2 | h2 <;> first | omega | (subst h2; omega)))) hk5 (by intro q h1 h2; first | exact (h2 : False).elim | exact h2 | (have h2 : q = _ := h2; subst h2; omega) | (have h2 : _ ≤ q := h2; omega) | (have h2 : _ ≤ q ∧ _ := h2; omega) | (rcases h2 with h2 | h2 | h2 <;> first | omega | (subst h2; omega)) | (rcases h2 with h2 | h2 <;> first | omega | (subst h2; omega)))) hk6 (by intro q h1 h2; first | exact (h2 : False).elim | exact h2 | (have h2 : q = _ := h2; subst h2; omega) | (have h2 : _ ≤ q := h2; omega) | (have h2 : _ ≤ q ∧ _ := h2; omega) | (rcases h2 with h2 | h2 | h2 <;> first | omega | (subst h2; omega)) | (rcases h2 with h2 | h2 <;> first | omega | (subst h2; omega)))) hk12 (by intro q h1 h2; first | exact (h2 : False).elim | exact h2 | (have h2 : q = _ := h2; subst h2; omega) | (have h2 : _ ≤ q := h2; omega) | (have h2 : _ ≤ q ∧ _ := h2; omega) | (rcases h2 with h2 | h2 | h2 <;> first | omega | (subst h2; omega)) | (rcases h2 with h2 | h2 <;> first | omega | (subst h2; omega)))) hx13 (by intro q h1 h2; first | exact (h2 : False).elim | exact h2 | (have h2 : q = _ := h2; subst h2; omega) | (have h2 : _ ≤ q := h2; omega) | (have h2 : _ ≤ q ∧ _ := h2; omega) | (rcases h2 with h2 | h2 | h2 <;> first | omega | (subst h2; omega)) | (rcases h2 with h2 | h2 <;> first | omega | (subst h2; omega)))) hx14 (by intro q h1 h2; first | exact (h2 : False).elim | exact h2 | (have h2 : q = _ := h2; subst h2; omega) | (have h2 : _ ≤ q := h2; omega) | (have h2 : _ ≤ q ∧ _ := h2; omega) | (rcases h2 with h2 | h2 | h2 <;> first | omega | (subst h2; omega)) | (rcases h2 with h2 | h2 <;> first | omega | (subst h2; omega)))) hx16 (by intro q h1 h2; first | exact (h2 : False).elim | exact h2 | (have h2 : q = _ := h2; subst h2; omega) | (have h2 : _ ≤ q := h2; omega) | (have h2 : _ ≤ q ∧ _ := h2; omega) | (rcases h2 with h2 | h2 | h2 <;> first | omega | (subst h2; omega)) | (rcases h2 with h2 | h2 <;> first | omega | (subst h2; omega))))
      have hxs := hx.size
      obtain ⟨col', hcol⟩ : ∃ col', col' = rec' col w.heap.size w16.heap.size (3) := ⟨_, rfl⟩
      have hold : ∀ q, q < w.heap.size → col' q = col q := fun q hq => by rw [hcol]; exact rec_old hq
      have hnew : ∀ q, w.heap.size ≤ q → q < w16.heap.size → col' q = 3 := fun q h1 h2 => by rw [hcol]; exact rec_new h1 h2
      have hltc : ∀ q, col' q ≠ 0 → q < w16.heap.size := fun q hq => by rw [hcol] at hq; exact rec_lt hlt hxs hq
      have P := h.part (col' := col') (fun v => v = 1) hx hold (fun q hq ht => ht)
      have hst : Stp col w col' w16 := ⟨hold, hx.mono (fun q _ t => by (try simp only [] at t); omega)⟩
      have hD' : Mine KEn 121 (fun q => col' q = 3) 0 0 w16 vA (rapply c t.dir) := by
        rcases hA with ⟨e1, e2⟩ | hMA
        · rw [e1, e2]; exact P.D (by decide)
        · exact (((((((((hMA.mono (T := fun q => w.heap.size ≤ q ∧ q < w3.heap.size) (fun q hq hS => ⟨by (have hS : _ ≤ q := hS); omega, hq⟩)).ext hx4 (by intros; omega) (by intro q g1 g2; (try dsimp only at g1); (try dsimp only at g2); first | omega | (have g2 : q = _ := g2; subst g2; omega) | (subst g2; omega))).keep hk5).keep hk6).keep hk12).ext hx13 (by intros; omega) (by intro q g1 g2; (try dsimp only at g1); (try dsimp only at g2); first | omega | (have g2 : q = _ := g2; subst g2; omega) | (subst g2; omega))).ext hx14 (by intros; omega) (by intro q g1 g2; (try dsimp only at g1); (try dsimp only at g2); first | omega | (have g2 : q = _ := g2; subst g2; omega) | (subst g2; omega))).ext hx16 (by intros; omega) (by intro q g1 g2; (try dsimp only at g1); (try dsimp only at g2); first | omega | (have g2 : q = _ := g2; subst g2; omega) | (subst g2; omega)))).mono (fun q hq hS => hnew q hS.1 hq)
      refine ⟨rfl, _, _, col', hold, hnew, ⟨hB16, P.F (by decide), hD', P.X (by decide), ((hM14.ext hx16 (by first | (intro q g1 g2 g3; first | (have g3 : q = _ := g3; omega) | (have g3 : _ ≤ q := g3; omega) | omega) | (intro hh; first | (have hh : _ = _ := hh; omega) | (have hh : _ ≤ _ := hh; omega)) | (intros; omega) | (intro q g1 g2; first | (have g2 : q = _ := g2; omega) | (have g2 : _ ≤ q := g2; omega))) (by first | (intro q g1 g2 g3; first | (have g3 : q = _ := g3; omega) | (have g3 : _ ≤ q := g3; omega) | omega) | (intro hh; first | (have hh : _ = _ := hh; omega) | (have hh : _ ≤ _ := hh; omega)) | (intros; omega) | (intro q g1 g2; first | (have g2 : q = _ := g2; omega) | (have g2 : _ ≤ q := g2; omega))))).mono (fun q hq hS => hnew q (by have hS : _ ≤ q := hS; omega) hq), P.cx, hltc, P.pl, fun k p f h1 h2 => P.fl k p f h1 h2 (by decide) (fun j _ _ => by omega)⟩, (Ext.andThen (Ext.andThen (Ext.andThen (Ext.andThen (Ext.andThen (Ext.andThen (Ext.andThen (Ext.andThen (Ext.andThen (Ext.andThen (Ext.refl (fun q => q = x) _) hk1 (by intro q h1 h2; first | exact (h2 : False).elim | ((try simp only [] at h2); omega))) hk2 (by intro q h1 h2; first | exact (h2 : False).elim | ((try simp only [] at h2); omega))) hk3 (by intro q h1 h2; first | exact (h2 : False).elim | ((try simp only [] at h2); omega))) hx4 (by intro q h1 h2; first | exact (h2 : False).elim | ((try simp only [] at h2); omega))) hk5 (by intro q h1 h2; first | exact (h2 : False).elim | ((try simp only [] at h2); omega))) hk6 (by intro q h1 h2; first | exact (h2 : False).elim | ((try simp only [] at h2); omega))) hk12 (by intro q h1 h2; first | exact (h2 : False).elim | ((try simp only [] at h2); omega))) hx13 (by intro q h1 h2; first | exact (h2 : False).elim | ((try simp only [] at h2); omega))) hx14 (by intro q h1 h2; first | exact (h2 : False).elim | ((try simp only [] at h2); omega))) hx16 (by intro q h1 h2; first | exact (h2 : False).elim | ((try simp only [] at h2); omega)))⟩
  · refine X.d1E (i := 8) rfl (X.dwN rfl) (X.litKF KCh_flat (K := KCh) (xs := [Operand.tmp 20]) (vs := [evCh c]) (ys := [c]) Tryz.underlying81 Tryz.sizeOf113 Tryz.zeroValue113 rfl rfl rfl rfl rfl (repsCh _)) (by rintro _ w17 ⟨rfl, hs17, hB17, hk17, hz17⟩ _; exact hk17.mono (fun _ _ h => h.elim)) ?_
    rintro _ w17 ⟨rfl, hs17, hB17, hk17, hz17⟩
    refine X.dE (i := 1) (by kernel_rfl) rfl (X.dwN rfl) (X.lit0E (K := KCh) (S := fun k => w17.heap.size ≤ k) Tryz.underlying81 Tryz.sizeOf113 (by intros; (try simp only [] at *); omega)) (by rintro v18 w18 ⟨hM18, hk18, hz18⟩ _; exact hk18.mono (fun _ _ h => h.elim)) ?_
    rintro v18 w18 ⟨hM18, hk18, hz18⟩
    refine X.dE (i := 6) (by kernel_rfl) rfl (X.dwN rfl) (X.appE (K := KCh) (S := fun k => w17.heap.size ≤ k) KCh_flat Tryz.underlying81 ERc rfl rfl hM18 ((m0 KCh_flat (((((h.C.keep hk1).keep hk2).keep hk3).ext hx4 (by intros; omega) (by intro q g1 g2; (try dsimp only at g1); (try dsimp only at g2); first | omega | (have g2 : q = _ := g2; subst g2; omega) | (subst g2; omega))).keep hk5)).keep (hk17.trans hk18)) (by (try simp only [List.length_append, List.length_cons, List.length_nil, List.length_take, List.length_drop, List.length_map, List.length_range]); omega) (by intros; (try simp only [] at *); omega)) (by rintro v19 w19 ⟨hM19, hx19⟩ _; exact hx19.mono (fun k _ h => by (try simp only [] at *); omega)) ?_
    rintro v19 w19 ⟨hM19, hx19⟩
    have hx19' := hx19.size
    refine X.dE (i := 9) (by kernel_rfl) rfl (X.dwN rfl) (X.appE (K := KCh) (S := fun k => w17.heap.size ≤ k) KCh_flat Tryz.underlying81 ERc rfl rfl (Mine.mono (T := fun k => w17.heap.size ≤ k) hM19 (fun k h1 h2 => by (try simp only [] at *); omega)) (hs17.keep (hk18.step hx19 (by intros; (try simp only [] at *); omega))) (by (try simp only [List.length_append, List.length_cons, List.length_nil, List.length_take, List.length_drop, List.length_map, List.length_range]); omega) (by intros; (try simp only [] at *); omega)) (by rintro v20 w20 ⟨hM20, hx20⟩ _; exact hx20.mono (fun k _ h => by (try simp only [] at *); omega)) ?_
    rintro v20 w20 ⟨hM20, hx20⟩
    have hx20' := hx20.size
    refine X.dStep (i := 10) (by kernel_rfl) rfl (X.dwN rfl) (X.nilCk rfl) (fun h => absurd h (by decide)) ?_
    refine X.dStep (i := 11) (by kernel_rfl) rfl (X.dwN rfl) (X.fldB (j := 4) Tryz.underlying83 rfl rfl Tryz.sizeOf81 rfl) (fun h => absurd h (by decide)) ?_
    have q21 := hM20.slF KCh_flat 0 (fun _ _ => Nat.zero_le _)
    obtain ⟨A21, c21, rfl, hc21, hs21⟩ := q21
    refine X.dE (i := 12) (by kernel_rfl) rfl (X.dwN rfl) (X.storeE Tryz.sizeOf81 (hB4.keep ((((hk5.trans hk17).trans hk18).step hx19 (by intros; (try simp only [] at *); omega)).step hx20 (by intros; (try simp only [] at *); omega))) rfl rfl rfl (by obtain ⟨A', c', e, _⟩ := (hM20).slice; rw [e]; rfl)) (fun _ _ _ h => absurd h (by decide)) ?_
    rintro _ w22 ⟨hB22, hx22, hz22⟩
    refine X.dEnd (by kernel_rfl) ?_
    refine X.end0 Tryz.func57 Tryz.results57 ?_
    have hx : Ext (fun q => col q = 1) w w22 := (Ext.andThen (Ext.andThen (Ext.andThen (Ext.andThen (Ext.andThen (Ext.andThen (Ext.andThen (Ext.andThen (Ext.andThen (Ext.andThen (Ext.refl (fun q => col q = 1) _) hk1 (by intro q h1 h2; first | exact (h2 : False).elim | exact h2 | (have h2 : q = _ := h2; subst h2; omega) | (have h2 : _ ≤ q := h2; omega) | (have h2 : _ ≤ q ∧ _ := h2; omega) | (rcases h2 with h2 | h2 | h2 <;> first | omega | (subst h2; omega)) | (rcases h2 with h2 | h2 <;> first | omega | (subst h2; omega)))) hk2 (by intro q h1 h2; first | exact (h2 : False).elim | exact h2 | (have h2 : q = _ := h2; subst h2; omega) | (have h2 : _ ≤ q := h2; omega) | (have h2 : _ ≤ q ∧ _ := h2; omega) | (rcases h2 with h2 | h2 | h2 <;> first | omega | (subst h2; omega)) | (rcases h2 with h2 | h2 <;> first | omega | (subst h2; omega)))) hk3 (by intro q h1 h2; first | exact (h2 : False).elim | exact h2 | (have h2 : q = _ := h2; subst h2; omega) | (have h2 : _ ≤ q := h2; omega) | (have h2 : _ ≤ q ∧ _ := h2; omega) | (rcases h2 with h2 | h2 | h2 <;> first | omega | (subst h2; omega)) | (rcases h2 with h2 | h2 <;> first | omega | (subst h2; omega)))) hx4 (by intro q h1 h2; first | exact (h2 : False).elim | exact h2 | (have h2 : q = _ := h2; subst h2; omega) | (have h2 : _ ≤ q := h2; omega) | (have h2 : _ ≤ q ∧ _ := h2; omega) | (rcases h2 with h2 | h2 | h2 <;> first | omega | (subst h2; omega)) | (rcases h2 with h2 | h2 <;> first | omega | (subst h2; omega)))) hk5 (by intro q h1 h2; first | exact (h2 : False).elim | exact h2 | (have h2 : q = _ := h2; subst h2; omega) | (have h2 : _ ≤ q := h2; omega) | (have h2 : _ ≤ q ∧ _ := h2; omega) | (rcases h2 with h2 | h2 | h2 <;> first | omega | (subst h2; omega)) | (rcases h2 with h2 | h2 <;> first | omega | (subst h2; omega)))) hk17 (by intro q h1 h2; first | exact (h2 : False).elim | exact h2 | (have h2 : q = _ := h2; subst h2; omega) | (have h2 : _ ≤ q := h2; omega) | (have h2 : _ ≤ q ∧ _ := h2; omega) | (rcases h2 with h2 | h2 | h2 <;> first | omega | (subst h2; omega)) | (rcases h2 with h2 | h2 <;> first | omega | (subst h2; omega)))) hk18 (by intro q h1 h2; first | exact (h2 : False).elim | exact h2 | (have h2 : q = _ := h2; subst h2; omega) | (have h2 : _ ≤ q := h2; omega) | (have h2 : _ ≤ q ∧ _ := h2; omega) | (rcases h2 with h2 | h2 | h2 <;> first | omega | (subst h2; omega)) | (rcases h2 with h2 | h2 <;> first | omega | (subst h2; omega)))) hx19 (by intro q h1 h2; first | exact (h2 : False).elim | exact h2 | (have h2 : q = _ := h2; subst h2; omega) | (have h2 : _ ≤ q := h2; omega) | (have h2 : _ ≤ q ∧ _ := h2; omega) | (rcases h2 with h2 | h2 | h2 <;> first | omega | (subst h2; omega)) | (rcases h2 with h2 | h2 <;> first | omega | (subst h2; omega)))) hx20 (by intro q h1 h2; first | exact (h2 : False).elim | exact h2 | (have h2 : q = _ := h2; subst h2; omega) | (have h2 : _ ≤ q := h2; omega) | (have h2 : _ ≤ q ∧ _ := h2; omega) | (rcases h2 with h2 | h2 | h2 <;> first | omega | (subst h2; omega)) | (rcases h2 with h2 | h2 <;> first | omega | (subst h2; omega)))) hx22 (by intro q h1 h2; first | exact (h2 : False).elim | exact h2 | (have h2 : q = _ := h2; subst h2; omega) | (have h2 : _ ≤ q := h2; omega) | (have h2 : _ ≤ q ∧ _ := h2; omega) | (rcases h2 with h2 | h2 | h2 <;> first | omega | (subst h2; omega)) | (rcases h2 with h2 | h2 <;> first | omega | (subst h2; omega))))
    have hxs := hx.size
    obtain ⟨col', hcol⟩ : ∃ col', col' = rec' col w.heap.size w22.heap.size (3) := ⟨_, rfl⟩
    have hold : ∀ q, q < w.heap.size → col' q = col q := fun q hq => by rw [hcol]; exact rec_old hq
    have hnew : ∀ q, w.heap.size ≤ q → q < w22.heap.size → col' q = 3 := fun q h1 h2 => by rw [hcol]; exact rec_new h1 h2
    have hltc : ∀ q, col' q ≠ 0 → q < w22.heap.size := fun q hq => by rw [hcol] at hq; exact rec_lt hlt hxs hq
    have P := h.part (col' := col') (fun v => v = 1) hx hold (fun q hq ht => ht)
    have hst : Stp col w col' w22 := ⟨hold, hx.mono (fun q _ t => by (try simp only [] at t); omega)⟩
    have hD' : Mine KEn 121 (fun q => col' q = 3) 0 0 w22 vA (rapply c t.dir) := by
      rcases hA with ⟨e1, e2⟩ | hMA
      · rw [e1, e2]; exact P.D (by decide)
      · exact (((((((((hMA.mono (T := fun q => w.heap.size ≤ q ∧ q < w3.heap.size) (fun q hq hS => ⟨by (have hS : _ ≤ q := hS); omega, hq⟩)).ext hx4 (by intros; omega) (by intro q g1 g2; (try dsimp only at g1); (try dsimp only at g2); first | omega | (have g2 : q = _ := g2; subst g2; omega) | (subst g2; omega))).keep hk5).keep hk17).keep hk18).ext hx19 (by intros; omega) (by intro q g1 g2; (try dsimp only at g1); (try dsimp only at g2); first | omega | (have g2 : q = _ := g2; subst g2; omega) | (subst g2; omega))).ext hx20 (by intros; omega) (by intro q g1 g2; (try dsimp only at g1); (try dsimp only at g2); first | omega | (have g2 : q = _ := g2; subst g2; omega) | (subst g2; omega))).ext hx22 (by intros; omega) (by intro q g1 g2; (try dsimp only at g1); (try dsimp only at g2); first | omega | (have g2 : q = _ := g2; subst g2; omega) | (subst g2; omega)))).mono (fun q hq hS => hnew q hS.1 hq)
    refine ⟨rfl, _, _, col', hold, hnew, ⟨hB22, P.F (by decide), hD', P.X (by decide), ((hM20.ext hx22 (by first | (intro q g1 g2 g3; first | (have g3 : q = _ := g3; omega) | (have g3 : _ ≤ q := g3; omega) | omega) | (intro hh; first | (have hh : _ = _ := hh; omega) | (have hh : _ ≤ _ := hh; omega)) | (intros; omega) | (intro q g1 g2; first | (have g2 : q = _ := g2; omega) | (have g2 : _ ≤ q := g2; omega))) (by first | (intro q g1 g2 g3; first | (have g3 : q = _ := g3; omega) | (have g3 : _ ≤ q := g3; omega) | omega) | (intro hh; first | (have hh : _ = _ := hh; omega) | (have hh : _ ≤ _ := hh; omega)) | (intros; omega) | (intro q g1 g2; first | (have g2 : q = _ := g2; omega) | (have g2 : _ ≤ q := g2; omega))))).mono (fun q hq hS => hnew q (by have hS : _ ≤ q := hS; omega) hq), P.cx, hltc, P.pl, fun k p f h1 h2 => P.fl k p f h1 h2 (by decide) (fun j _ _ => by omega)⟩, (Ext.andThen (Ext.andThen (Ext.andThen (Ext.andThen (Ext.andThen (Ext.andThen (Ext.andThen (Ext.andThen (Ext.andThen (Ext.andThen (Ext.refl (fun q => q = x) _) hk1 (by intro q h1 h2; first | exact (h2 : False).elim | ((try simp only [] at h2); omega))) hk2 (by intro q h1 h2; first | exact (h2 : False).elim | ((try simp only [] at h2); omega))) hk3 (by intro q h1 h2; first | exact (h2 : False).elim | ((try simp only [] at h2); omega))) hx4 (by intro q h1 h2; first | exact (h2 : False).elim | ((try simp only [] at h2); omega))) hk5 (by intro q h1 h2; first | exact (h2 : False).elim | ((try simp only [] at h2); omega))) hk17 (by intro q h1 h2; first | exact (h2 : False).elim | ((try simp only [] at h2); omega))) hk18 (by intro q h1 h2; first | exact (h2 : False).elim | ((try simp only [] at h2); omega))) hx19 (by intro q h1 h2; first | exact (h2 : False).elim | ((try simp only [] at h2); omega))) hx20 (by intro q h1 h2; first | exact (h2 : False).elim | ((try simp only [] at h2); omega))) hx22 (by intro q h1 h2; first | exact (h2 : False).elim | ((try simp only [] at h2); omega)))⟩
end Go.Proofs.YtcdebnppbnmmgaaGreat

namespace Go.Proofs.YtcdebnppbnmmgaaGreat
open Go Go.Proofs.YtcdebnppbnmmgaaGreat.X
set_option linter.unusedVariables false
set_option linter.unusedSimpArgs false
def RS.delete (nm : ByteArray) (t : RS) : Int × RS := if t.down = true then (54, t) else if rfind nm t.dir < 0 then (52, t) else (0, (t.note (nm, ⟨#[]⟩, 0)).did)
def RS.rename (nm to : ByteArray) (t : RS) : Int × RS := if t.down = true then (54, t) else if rfind nm t.dir < 0 then (52, t) else if isNm to = false then (51, t) else (0, (if to = nm then t else t.note (nm, to, rfind nm t.dir)).did)
def RS.syncDir (t : RS) : Int × RS := if t.down = true then (54, t) else (0, ({ t with fx := t.dir, chs := [] } : RS).did)
def RS.fuse (n : Int) (t : RS) : Int × RS := if n < 0 ∨ 1048576 < n then (5, t) else (0, { t with has := true, left := n })
set_option maxHeartbeats 4000000 in
set_option maxRecDepth 100000 in
theorem RDelete_c {col : Nat → Nat} {x : Nat} {vF vD vX vC : Value} {pt : List Nat} {t : RS} (nm : ByteArray) (w : World) (h : RkB col w x vF vD vX vC pt t) (hok : t.Ok) : Ret Tryz.prog 24 #[ptrV x, .string nm] w fun r w' => r = .int .i64 (t.delete nm).1 ∧ ∃ col', RkR col' w' x (t.delete nm).2 ∧ Stp col w col' w' := by
  obtain ⟨AD, cD, e, hcD, hsD⟩ := h.D.slF KEn_flat 0 (fun _ _ => Nat.zero_le _)
  subst e
  obtain ⟨AC, cC, e, hcC, hsC⟩ := h.C.slF KCh_flat 0 (fun _ _ => Nat.zero_le _)
  subst e
  obtain ⟨AF, cF, e, hcF, hsF⟩ := h.F.slF KRp_flat 0 (fun _ _ => Nat.zero_le _)
  subst e
  have hB := h.B
  have hxl := h.B.lt
  have hlt := h.lt
  have hcx := h.cx
  have hok1 := hok.few
  have hok2 := hok.many
  have hok3 := hok.left
  refine X.enter Tryz.func24 rfl Tryz.ntmps24 rfl ?_
  refine X.seq ?_
  refine X.region ?_
  refine X.opw X.wN rfl (X.assign rfl) ?_
  refine X.opsEnd ?_
  refine X.seq ?_
  refine X.seq ?_
  refine X.region ?_
  refine X.opw X.wN rfl (X.move rfl) ?_
  refine X.opE X.wN rfl (X.callE (RDown_c _ (h.keep (Keep.refl _))) Tryz.call37 rfl rfl) ?_
  rintro _ w1 ⟨rfl, hk1⟩
  have hk1' := hk1.size
  refine X.opsEnd ?_
  refine X.condB rfl (fun hd => ?_) (fun hd => ?_)
  · refine X.seq ?_
    refine X.region ?_
    refine X.opw X.wN rfl (X.assign rfl) ?_
    refine X.opsEnd ?_
    refine X.ret1 (v := (.int .i64 _)) Tryz.func24 Tryz.results24 rfl ?_
    have e : t.delete nm = (54, t) := by simp only [RS.delete, if_pos hd]
    rw [e]
    exact ⟨rfl, col, (h.keep hk1).r, Stp.keep hk1⟩
  · refine X.skip ?_
    refine X.seq ?_
    refine X.seq ?_
    refine X.region ?_
    refine X.opw X.wN rfl (X.move rfl) ?_
    refine X.opw X.wN rfl (X.nilCk rfl) ?_
    refine X.opw X.wN rfl (X.fldB (j := 2) Tryz.underlying83 rfl rfl Tryz.sizeOf80 rfl) ?_
    refine X.opw X.wN rfl (X.load1B Tryz.isAgg80 (hB.keep hk1) rfl rfl) ?_
    refine X.opw X.wN rfl (X.move (v := .string _) rfl) ?_
    refine X.opE X.wN rfl (X.callE (Find_c nm _ (hsD.keep hk1) (by omega)) Tryz.call56 rfl rfl) ?_
    rintro _ w2 ⟨rfl, hk2⟩
    have hk2' := hk2.size
    refine X.opP X.wN rfl rfl (X.lss rfl rfl) (fun h13 => ?_) (fun h13 => ?_)
    · refine X.opsEnd ?_
      refine X.condT rfl ?_
      refine X.seq ?_
      refine X.region ?_
      refine X.opw X.wN rfl (X.assign rfl) ?_
      refine X.opsEnd ?_
      refine X.ret1 (v := (.int .i64 _)) Tryz.func24 Tryz.results24 rfl ?_
      have e : t.delete nm = (52, t) := by simp only [RS.delete, if_neg (show ¬ t.down = true by rw [hd]; decide), if_pos h13]
      rw [e]
      exact ⟨rfl, col, (h.keep (hk1.trans hk2)).r, Stp.keep (hk1.trans hk2)⟩
    · refine X.opsEnd ?_
      refine X.condF rfl ?_
      refine X.skip ?_
      refine X.seq ?_
      refine X.region ?_
      refine X.opw X.wN rfl (X.move rfl) ?_
      refine X.opw X.wN rfl (X.move (v := .string _) rfl) ?_
      refine X.opw X.wN rfl (X.buildB (vs := [(0, .string nm)]) (cs := #[.string nm, .string ⟨#[]⟩, .int .i64 0]) rfl (by kernel_rfl)) ?_
      refine X.opE X.wN rfl (X.callE (change_c (nm, ⟨#[]⟩, 0) _ (h.keep (hk1.trans hk2)) ⟨by omega, by omega⟩) Tryz.call57 rfl rfl) ?_
      rintro _ w3 ⟨rfl, vD', vC', col1, hold1, hnew1, hR1, hx3⟩
      have hx3' := hx3.size
      refine X.opsEnd ?_
      refine X.seq ?_
      refine X.region ?_
      refine X.opw X.wN rfl (X.move rfl) ?_
      refine X.opE X.wN rfl (X.callE (Rdid_c _ hR1 (by (try simp only [RS.note]); omega)) Tryz.call58 rfl rfl) ?_
      rintro _ w4 ⟨rfl, hR2, hx4⟩
      have hx4' := hx4.size
      refine X.opw X.wN rfl (X.assign (v := .int .i64 _) rfl) ?_
      refine X.opsEnd ?_
      refine X.ret1 (v := (.int .i64 _)) Tryz.func24 Tryz.results24 rfl ?_
      have hx : Ext (fun q => col q ≠ 0) w w4 := (Ext.andThen (Ext.andThen (Ext.andThen (Ext.andThen (Ext.refl (fun q => col q ≠ 0) _) hk1 (by intro q h1 h2; first | exact (h2 : False).elim | exact h2 | (have h2 : q = _ := h2; subst h2; omega) | (have h2 : _ ≤ q := h2; omega) | (have h2 : _ ≤ q ∧ _ := h2; omega) | (rcases h2 with h2 | h2 <;> first | omega | (subst h2; omega)))) hk2 (by intro q h1 h2; first | exact (h2 : False).elim | exact h2 | (have h2 : q = _ := h2; subst h2; omega) | (have h2 : _ ≤ q := h2; omega) | (have h2 : _ ≤ q ∧ _ := h2; omega) | (rcases h2 with h2 | h2 <;> first | omega | (subst h2; omega)))) hx3 (by intro q h1 h2; first | exact (h2 : False).elim | exact h2 | (have h2 : q = _ := h2; subst h2; omega) | (have h2 : _ ≤ q := h2; omega) | (have h2 : _ ≤ q ∧ _ := h2; omega) | (rcases h2 with h2 | h2 <;> first | omega | (subst h2; omega)))) hx4 (by intro q h1 h2; first | exact (h2 : False).elim | exact h2 | (have h2 : q = _ := h2; subst h2; omega) | (have h2 : _ ≤ q := h2; omega) | (have h2 : _ ≤ q ∧ _ := h2; omega) | (rcases h2 with h2 | h2 <;> first | omega | (subst h2; omega))))
      have e : t.delete nm = (0, (t.note (nm, ⟨#[]⟩, 0)).did) := by simp only [RS.delete, if_neg (show ¬ t.down = true by rw [hd]; decide), if_neg h13]
      rw [e]
      exact ⟨rfl, col1, hR2.r, ⟨fun q hq => hold1 q (by omega), hx⟩⟩
set_option maxHeartbeats 4000000 in
set_option maxRecDepth 100000 in
theorem RRename_c {col : Nat → Nat} {x : Nat} {vF vD vX vC : Value} {pt : List Nat} {t : RS} (nm to : ByteArray) (w : World) (h : RkB col w x vF vD vX vC pt t) (hok : t.Ok) : Ret Tryz.prog 22 #[ptrV x, .string nm, .string to] w fun r w' => r = .int .i64 (t.rename nm to).1 ∧ ∃ col', RkR col' w' x (t.rename nm to).2 ∧ Stp col w col' w' := by
  obtain ⟨AD, cD, e, hcD, hsD⟩ := h.D.slF KEn_flat 0 (fun _ _ => Nat.zero_le _)
  subst e
  obtain ⟨AC, cC, e, hcC, hsC⟩ := h.C.slF KCh_flat 0 (fun _ _ => Nat.zero_le _)
  subst e
  obtain ⟨AF, cF, e, hcF, hsF⟩ := h.F.slF KRp_flat 0 (fun _ _ => Nat.zero_le _)
  subst e
  have hB := h.B
  have hxl := h.B.lt
  have hlt := h.lt
  have hcx := h.cx
  have hok1 := hok.few
  have hok2 := hok.many
  have hok3 := hok.left
  refine X.enter Tryz.func22 rfl Tryz.ntmps22 rfl ?_
  refine X.seq ?_
  refine X.region ?_
  refine X.opw X.wN rfl (X.assign rfl) ?_
  refine X.opsEnd ?_
  refine X.seq ?_
  refine X.seq ?_
  refine X.region ?_
  refine X.opw X.wN rfl (X.move rfl) ?_
  refine X.opE X.wN rfl (X.callE (RDown_c _ (h.keep (Keep.refl _))) Tryz.call37 rfl rfl) ?_
  rintro _ w1 ⟨rfl, hk1⟩
  have hk1' := hk1.size
  refine X.opsEnd ?_
  refine X.condB rfl (fun hd => ?_) (fun hd => ?_)
  · refine X.seq ?_
    refine X.region ?_
    refine X.opw X.wN rfl (X.assign rfl) ?_
    refine X.opsEnd ?_
    refine X.ret1 (v := (.int .i64 _)) Tryz.func22 Tryz.results22 rfl ?_
    have e : t.rename nm to = (54, t) := by simp only [RS.rename, if_pos hd]
    rw [e]
    exact ⟨rfl, col, (h.keep hk1).r, Stp.keep hk1⟩
  · refine X.skip ?_
    refine X.seq ?_
    refine X.region ?_
    refine X.opw X.wN rfl (X.move rfl) ?_
    refine X.opw X.wN rfl (X.nilCk rfl) ?_
    refine X.opw X.wN rfl (X.fldB (j := 2) Tryz.underlying83 rfl rfl Tryz.sizeOf80 rfl) ?_
    refine X.opw X.wN rfl (X.load1B Tryz.isAgg80 (hB.keep hk1) rfl rfl) ?_
    refine X.opw X.wN rfl (X.move (v := .string _) rfl) ?_
    refine X.opE X.wN rfl (X.callE (Find_c nm _ (hsD.keep hk1) (by omega)) Tryz.call56 rfl rfl) ?_
    rintro _ w2 ⟨rfl, hk2⟩
    have hk2' := hk2.size
    refine X.opw X.wN rfl (X.assign (v := .int .i64 _) rfl) ?_
    refine X.opsEnd ?_
    refine X.seq ?_
    refine X.seq ?_
    refine X.region ?_
    refine X.opw X.wN rfl (X.move (v := .int .i64 _) rfl) ?_
    refine X.opP X.wN rfl rfl (X.lss rfl rfl) (fun h17 => ?_) (fun h17 => ?_)
    · refine X.opsEnd ?_
      refine X.condT rfl ?_
      refine X.seq ?_
      refine X.region ?_
      refine X.opw X.wN rfl (X.assign rfl) ?_
      refine X.opsEnd ?_
      refine X.ret1 (v := (.int .i64 _)) Tryz.func22 Tryz.results22 rfl ?_
      have e : t.rename nm to = (52, t) := by simp only [RS.rename, if_neg (show ¬ t.down = true by rw [hd]; decide), if_pos h17]
      rw [e]
      exact ⟨rfl, col, (h.keep (hk1.trans hk2)).r, Stp.keep (hk1.trans hk2)⟩
    · refine X.opsEnd ?_
      refine X.condF rfl ?_
      refine X.skip ?_
      refine X.seq ?_
      refine X.seq ?_
      refine X.region ?_
      refine X.opw X.wN rfl (X.move (v := .string _) rfl) ?_
      refine X.opE X.wN rfl (X.callE (IsName_c _ _) Tryz.call55 rfl rfl) ?_
      rintro _ w3 ⟨rfl, hk3⟩
      have hk3' := hk3.size
      refine X.opw X.wN rfl (X.not_ rfl) ?_
      refine X.opsEnd ?_
      refine X.condB rfl (fun hn => ?_) (fun hn => ?_)
      · refine X.seq ?_
        refine X.region ?_
        refine X.opw X.wN rfl (X.assign rfl) ?_
        refine X.opsEnd ?_
        refine X.ret1 (v := (.int .i64 _)) Tryz.func22 Tryz.results22 rfl ?_
        have e : t.rename nm to = (51, t) := by simp only [RS.rename, if_neg (show ¬ t.down = true by rw [hd]; decide), if_neg h17, if_pos (show isNm to = false by simpa using hn)]
        rw [e]
        exact ⟨rfl, col, (h.keep ((hk1.trans hk2).trans hk3)).r, Stp.keep ((hk1.trans hk2).trans hk3)⟩
      · refine X.skip ?_
        refine X.seq ?_
        refine X.seq ?_
        refine X.region ?_
        refine X.opw X.wN rfl (X.move (v := .string _) rfl) ?_
        refine X.opw X.wN rfl (X.move (v := .string _) rfl) ?_
        refine X.opP X.wN rfl rfl (X.neD rfl rfl) (fun h23 => ?_) (fun h23 => ?_)
        · refine X.opsEnd ?_
          refine X.condT rfl ?_
          refine X.region ?_
          refine X.opw X.wN rfl (X.move rfl) ?_
          refine X.opw X.wN rfl (X.move (v := .string _) rfl) ?_
          refine X.opw X.wN rfl (X.move (v := .string _) rfl) ?_
          refine X.opw X.wN rfl (X.move (v := .int .i64 _) rfl) ?_
          refine X.opw X.wN rfl (X.buildB (vs := [(0, .string nm), (1, .string to), (2, .int .i64 (rfind nm t.dir))]) (cs := #[.string nm, .string to, .int .i64 (rfind nm t.dir)]) rfl (by kernel_rfl)) ?_
          refine X.opE X.wN rfl (X.callE (change_c (nm, to, rfind nm t.dir) _ (h.keep ((hk1.trans hk2).trans hk3)) ⟨by omega, by omega⟩) Tryz.call57 rfl rfl) ?_
          rintro _ w4 ⟨rfl, vD', vC', col1, hold1, hnew1, hR1, hx4⟩
          have hx4' := hx4.size
          refine X.opsEnd ?_
          refine X.seq ?_
          refine X.region ?_
          refine X.opw X.wN rfl (X.move rfl) ?_
          refine X.opE X.wN rfl (X.callE (Rdid_c _ hR1 (by (try simp only [RS.note]); omega)) Tryz.call58 rfl rfl) ?_
          rintro _ w5 ⟨rfl, hR2, hx5⟩
          have hx5' := hx5.size
          refine X.opw X.wN rfl (X.assign (v := .int .i64 _) rfl) ?_
          refine X.opsEnd ?_
          refine X.ret1 (v := (.int .i64 _)) Tryz.func22 Tryz.results22 rfl ?_
          have hx : Ext (fun q => col q ≠ 0) w w5 := (Ext.andThen (Ext.andThen (Ext.andThen (Ext.andThen (Ext.andThen (Ext.refl (fun q => col q ≠ 0) _) hk1 (by intro q h1 h2; first | exact (h2 : False).elim | exact h2 | (have h2 : q = _ := h2; subst h2; omega) | (have h2 : _ ≤ q := h2; omega) | (have h2 : _ ≤ q ∧ _ := h2; omega) | (rcases h2 with h2 | h2 <;> first | omega | (subst h2; omega)))) hk2 (by intro q h1 h2; first | exact (h2 : False).elim | exact h2 | (have h2 : q = _ := h2; subst h2; omega) | (have h2 : _ ≤ q := h2; omega) | (have h2 : _ ≤ q ∧ _ := h2; omega) | (rcases h2 with h2 | h2 <;> first | omega | (subst h2; omega)))) hk3 (by intro q h1 h2; first | exact (h2 : False).elim | exact h2 | (have h2 : q = _ := h2; subst h2; omega) | (have h2 : _ ≤ q := h2; omega) | (have h2 : _ ≤ q ∧ _ := h2; omega) | (rcases h2 with h2 | h2 <;> first | omega | (subst h2; omega)))) hx4 (by intro q h1 h2; first | exact (h2 : False).elim | exact h2 | (have h2 : q = _ := h2; subst h2; omega) | (have h2 : _ ≤ q := h2; omega) | (have h2 : _ ≤ q ∧ _ := h2; omega) | (rcases h2 with h2 | h2 <;> first | omega | (subst h2; omega)))) hx5 (by intro q h1 h2; first | exact (h2 : False).elim | exact h2 | (have h2 : q = _ := h2; subst h2; omega) | (have h2 : _ ≤ q := h2; omega) | (have h2 : _ ≤ q ∧ _ := h2; omega) | (rcases h2 with h2 | h2 <;> first | omega | (subst h2; omega))))
          have e : t.rename nm to = (0, (t.note (nm, to, rfind nm t.dir)).did) := by simp only [RS.rename, if_neg (show ¬ t.down = true by rw [hd]; decide), if_neg h17, if_neg (show ¬ isNm to = false by simpa using hn), if_neg h23]
          rw [e]
          exact ⟨rfl, col1, hR2.r, ⟨fun q hq => hold1 q (by omega), hx⟩⟩
        · refine X.opsEnd ?_
          refine X.condF rfl ?_
          refine X.skip ?_
          refine X.seq ?_
          refine X.region ?_
          refine X.opw X.wN rfl (X.move rfl) ?_
          refine X.opE X.wN rfl (X.callE (Rdid_c _ (h.keep ((hk1.trans hk2).trans hk3)) (by omega)) Tryz.call58 rfl rfl) ?_
          rintro _ w6 ⟨rfl, hR2, hx6⟩
          have hx6' := hx6.size
          refine X.opw X.wN rfl (X.assign (v := .int .i64 _) rfl) ?_
          refine X.opsEnd ?_
          refine X.ret1 (v := (.int .i64 _)) Tryz.func22 Tryz.results22 rfl ?_
          have hx : Ext (fun q => col q ≠ 0) w w6 := (Ext.andThen (Ext.andThen (Ext.andThen (Ext.andThen (Ext.refl (fun q => col q ≠ 0) _) hk1 (by intro q h1 h2; first | exact (h2 : False).elim | exact h2 | (have h2 : q = _ := h2; subst h2; omega) | (have h2 : _ ≤ q := h2; omega) | (have h2 : _ ≤ q ∧ _ := h2; omega) | (rcases h2 with h2 | h2 <;> first | omega | (subst h2; omega)))) hk2 (by intro q h1 h2; first | exact (h2 : False).elim | exact h2 | (have h2 : q = _ := h2; subst h2; omega) | (have h2 : _ ≤ q := h2; omega) | (have h2 : _ ≤ q ∧ _ := h2; omega) | (rcases h2 with h2 | h2 <;> first | omega | (subst h2; omega)))) hk3 (by intro q h1 h2; first | exact (h2 : False).elim | exact h2 | (have h2 : q = _ := h2; subst h2; omega) | (have h2 : _ ≤ q := h2; omega) | (have h2 : _ ≤ q ∧ _ := h2; omega) | (rcases h2 with h2 | h2 <;> first | omega | (subst h2; omega)))) hx6 (by intro q h1 h2; first | exact (h2 : False).elim | exact h2 | (have h2 : q = _ := h2; subst h2; omega) | (have h2 : _ ≤ q := h2; omega) | (have h2 : _ ≤ q ∧ _ := h2; omega) | (rcases h2 with h2 | h2 <;> first | omega | (subst h2; omega))))
          have e : t.rename nm to = (0, t.did) := by simp only [RS.rename, if_neg (show ¬ t.down = true by rw [hd]; decide), if_neg h17, if_neg (show ¬ isNm to = false by simpa using hn), if_pos (Classical.not_not.1 h23)]
          rw [e]
          exact ⟨rfl, col, hR2.r, ⟨fun q hq => rfl, hx⟩⟩
set_option maxHeartbeats 4000000 in
set_option maxRecDepth 100000 in
theorem RSyncDir_c {col : Nat → Nat} {x : Nat} {vF vD vX vC : Value} {pt : List Nat} {t : RS} (w : World) (h : RkB col w x vF vD vX vC pt t) (hok : t.Ok) : Ret Tryz.prog 26 #[ptrV x] w fun r w' => r = .int .i64 (t.syncDir).1 ∧ ∃ col', RkR col' w' x (t.syncDir).2 ∧ Stp col w col' w' := by
  obtain ⟨AD, cD, e, hcD, hsD⟩ := h.D.slF KEn_flat 0 (fun _ _ => Nat.zero_le _)
  subst e
  obtain ⟨AC, cC, e, hcC, hsC⟩ := h.C.slF KCh_flat 0 (fun _ _ => Nat.zero_le _)
  subst e
  obtain ⟨AF, cF, e, hcF, hsF⟩ := h.F.slF KRp_flat 0 (fun _ _ => Nat.zero_le _)
  subst e
  have hB := h.B
  have hxl := h.B.lt
  have hlt := h.lt
  have hcx := h.cx
  have hok1 := hok.few
  have hok2 := hok.many
  have hok3 := hok.left
  refine X.enter Tryz.func26 rfl Tryz.ntmps26 rfl ?_
  refine X.seq ?_
  refine X.region ?_
  refine X.opw X.wN rfl (X.assign rfl) ?_
  refine X.opsEnd ?_
  refine X.seq ?_
  refine X.seq ?_
  refine X.region ?_
  refine X.opw X.wN rfl (X.move rfl) ?_
  refine X.opE X.wN rfl (X.callE (RDown_c _ (h.keep (Keep.refl _))) Tryz.call37 rfl rfl) ?_
  rintro _ w1 ⟨rfl, hk1⟩
  have hk1' := hk1.size
  refine X.opsEnd ?_
  refine X.condB rfl (fun hd => ?_) (fun hd => ?_)
  · refine X.seq ?_
    refine X.region ?_
    refine X.opw X.wN rfl (X.assign rfl) ?_
    refine X.opsEnd ?_
    refine X.ret1 (v := (.int .i64 _)) Tryz.func26 Tryz.results26 rfl ?_
    have e : t.syncDir = (54, t) := by simp only [RS.syncDir, if_pos hd]
    rw [e]
    exact ⟨rfl, col, (h.keep hk1).r, Stp.keep hk1⟩
  · refine X.skip ?_
    refine X.seq ?_
    refine X.region ?_
    refine X.opw X.wN rfl (X.move rfl) ?_
    refine X.opw X.wN rfl (X.move rfl) ?_
    refine X.opw X.wN rfl (X.move rfl) ?_
    refine X.opw X.wN rfl (X.nilCk rfl) ?_
    refine X.opw X.wN rfl (X.fldB (j := 2) Tryz.underlying83 rfl rfl Tryz.sizeOf80 rfl) ?_
    refine X.opw X.wN rfl (X.load1B Tryz.isAgg80 (hB.keep hk1) rfl rfl) ?_
    refine X.opw X.wN rfl (X.nilCk rfl) ?_
    refine X.opw X.wN rfl (X.fldB (j := 3) Tryz.underlying83 rfl rfl Tryz.sizeOf80 rfl) ?_
    refine X.opE X.wN rfl (X.storeE Tryz.sizeOf80 (hB.keep hk1) rfl rfl rfl rfl) ?_
    rintro _ w2 ⟨hB2, hx2, hz2⟩
    refine X.opw X.wN rfl (X.nilCk rfl) ?_
    refine X.opw X.wN rfl (X.fldB (j := 4) Tryz.underlying83 rfl rfl Tryz.sizeOf81 rfl) ?_
    refine X.opE X.wN rfl (X.storeE Tryz.sizeOf81 hB2 rfl rfl rfl rfl) ?_
    rintro _ w3 ⟨hB3, hx3, hz3⟩
    refine X.opsEnd ?_
    refine X.seq ?_
    refine X.region ?_
    refine X.opw X.wN rfl (X.move rfl) ?_
    have hxx : Ext (fun q => q = x) w w3 := (Ext.andThen (Ext.andThen (Ext.andThen (Ext.refl (fun q => q = x) _) hk1 (by intro q h1 h2; first | exact (h2 : False).elim | ((try simp only [] at h2); omega))) hx2 (by intro q h1 h2; first | exact (h2 : False).elim | ((try simp only [] at h2); omega))) hx3 (by intro q h1 h2; first | exact (h2 : False).elim | ((try simp only [] at h2); omega)))
    have P := h.part (col' := col) (fun v => v = 1) hxx (fun _ _ => rfl) (fun q _ ht => by have ht : q = x := ht; rw [ht]; exact hcx)
    have hR1 : RkB col w3 x _ _ _ _ pt { t with fx := t.dir, chs := [] } := ⟨hB3, P.F (by decide), P.D (by decide), P.D (by decide), Mine.nil _ _ _ _ _ _, P.cx, fun q hq => Nat.lt_of_lt_of_le (hlt q hq) hxx.size, P.pl, fun k q f a b => P.fl k q f a b (by decide) (fun j _ _ => by omega)⟩
    refine X.opE X.wN rfl (X.callE (Rdid_c _ hR1 (by (try simp only [RS.note]); omega)) Tryz.call58 rfl rfl) ?_
    rintro _ w4 ⟨rfl, hR2, hx4⟩
    have hx4' := hx4.size
    refine X.opw X.wN rfl (X.assign (v := .int .i64 _) rfl) ?_
    refine X.opsEnd ?_
    refine X.ret1 (v := (.int .i64 _)) Tryz.func26 Tryz.results26 rfl ?_
    have hx : Ext (fun q => col q ≠ 0) w w4 := (Ext.andThen (Ext.andThen (Ext.andThen (Ext.andThen (Ext.refl (fun q => col q ≠ 0) _) hk1 (by intro q h1 h2; first | exact (h2 : False).elim | exact h2 | (have h2 : q = _ := h2; subst h2; omega) | (have h2 : _ ≤ q := h2; omega) | (have h2 : _ ≤ q ∧ _ := h2; omega) | (rcases h2 with h2 | h2 <;> first | omega | (subst h2; omega)))) hx2 (by intro q h1 h2; first | exact (h2 : False).elim | exact h2 | (have h2 : q = _ := h2; subst h2; omega) | (have h2 : _ ≤ q := h2; omega) | (have h2 : _ ≤ q ∧ _ := h2; omega) | (rcases h2 with h2 | h2 <;> first | omega | (subst h2; omega)))) hx3 (by intro q h1 h2; first | exact (h2 : False).elim | exact h2 | (have h2 : q = _ := h2; subst h2; omega) | (have h2 : _ ≤ q := h2; omega) | (have h2 : _ ≤ q ∧ _ := h2; omega) | (rcases h2 with h2 | h2 <;> first | omega | (subst h2; omega)))) hx4 (by intro q h1 h2; first | exact (h2 : False).elim | exact h2 | (have h2 : q = _ := h2; subst h2; omega) | (have h2 : _ ≤ q := h2; omega) | (have h2 : _ ≤ q ∧ _ := h2; omega) | (rcases h2 with h2 | h2 <;> first | omega | (subst h2; omega))))
    have e : t.syncDir = (0, ({ t with fx := t.dir, chs := [] } : RS).did) := by simp only [RS.syncDir, if_neg (show ¬ t.down = true by rw [hd]; decide)]
    rw [e]
    exact ⟨rfl, col, hR2.r, ⟨fun q hq => rfl, hx⟩⟩
set_option maxHeartbeats 4000000 in
set_option maxRecDepth 100000 in
theorem RFuse_c {col : Nat → Nat} {x : Nat} {vF vD vX vC : Value} {pt : List Nat} {t : RS} (n : Int) (w : World) (h : RkB col w x vF vD vX vC pt t) : Ret Tryz.prog 28 #[ptrV x, .int .i64 n] w fun r w' => r = .int .i64 (t.fuse n).1 ∧ ∃ col', RkR col' w' x (t.fuse n).2 ∧ Stp col w col' w' := by
  obtain ⟨AD, cD, e, hcD, hsD⟩ := h.D.slF KEn_flat 0 (fun _ _ => Nat.zero_le _)
  subst e
  obtain ⟨AC, cC, e, hcC, hsC⟩ := h.C.slF KCh_flat 0 (fun _ _ => Nat.zero_le _)
  subst e
  obtain ⟨AF, cF, e, hcF, hsF⟩ := h.F.slF KRp_flat 0 (fun _ _ => Nat.zero_le _)
  subst e
  have hB := h.B
  have hxl := h.B.lt
  have hlt := h.lt
  have hcx := h.cx
  refine X.enter Tryz.func28 rfl Tryz.ntmps28 rfl ?_
  refine X.seq ?_
  refine X.region ?_
  refine X.opw X.wN rfl (X.assign rfl) ?_
  refine X.opsEnd ?_
  refine X.seq ?_
  refine X.seq ?_
  refine X.region ?_
  refine X.opw X.wN rfl (X.move (v := .int .i64 _) rfl) ?_
  refine X.opP X.wN rfl rfl (X.lss rfl rfl) (fun h6 => ?_) (fun h6 => ?_)
  · refine X.opw X.wN rfl (X.move (v := .bool true) rfl) ?_
    refine X.opS rfl rfl rfl rfl rfl ?_
    refine X.opS rfl rfl rfl rfl rfl ?_
    refine X.opw X.wN rfl (X.pickT (v := .bool true) rfl rfl) ?_
    refine X.opsEnd ?_
    refine X.condT rfl ?_
    refine X.seq ?_
    refine X.region ?_
    refine X.opw X.wN rfl (X.assign rfl) ?_
    refine X.opsEnd ?_
    refine X.ret1 (v := (.int .i64 _)) Tryz.func28 Tryz.results28 rfl ?_
    have e : t.fuse n = (5, t) := by simp only [RS.fuse, if_pos (show n < 0 ∨ 1048576 < n by omega)]
    rw [e]
    exact ⟨rfl, col, (h.keep (Keep.refl _)).r, Stp.keep (Keep.refl _)⟩
  · refine X.opw X.wN rfl (X.move (v := .bool false) rfl) ?_
    refine X.opw (X.wG rfl rfl rfl) rfl (X.move (v := .int .i64 _) rfl) ?_
    refine X.opP (X.wG rfl rfl rfl) rfl rfl (X.gtr rfl rfl) (fun h9 => ?_) (fun h9 => ?_)
    · refine X.opw X.wN rfl (X.pickF (v := .bool true) rfl rfl) ?_
      refine X.opsEnd ?_
      refine X.condT rfl ?_
      refine X.seq ?_
      refine X.region ?_
      refine X.opw X.wN rfl (X.assign rfl) ?_
      refine X.opsEnd ?_
      refine X.ret1 (v := (.int .i64 _)) Tryz.func28 Tryz.results28 rfl ?_
      have e : t.fuse n = (5, t) := by simp only [RS.fuse, if_pos (show n < 0 ∨ 1048576 < n by omega)]
      rw [e]
      exact ⟨rfl, col, (h.keep (Keep.refl _)).r, Stp.keep (Keep.refl _)⟩
    · refine X.opw X.wN rfl (X.pickF (v := .bool false) rfl rfl) ?_
      refine X.opsEnd ?_
      refine X.condF rfl ?_
      refine X.skip ?_
      refine X.seq ?_
      refine X.region ?_
      refine X.opw X.wN rfl (X.move rfl) ?_
      refine X.opw X.wN rfl (X.move rfl) ?_
      refine X.opw X.wN rfl (X.move (v := .int .i64 _) rfl) ?_
      refine X.opw X.wN rfl (X.nilCk rfl) ?_
      refine X.opw X.wN rfl (X.fldB (j := 5) Tryz.underlying83 rfl rfl Tryz.sizeOf4 rfl) ?_
      refine X.opE X.wN rfl (X.storeE Tryz.sizeOf4 hB rfl rfl rfl rfl) ?_
      rintro _ w1 ⟨hB1, hx1, hz1⟩
      refine X.opw X.wN rfl (X.nilCk rfl) ?_
      refine X.opw X.wN rfl (X.fldB (j := 6) Tryz.underlying83 rfl rfl Tryz.sizeOf3 rfl) ?_
      refine X.opE X.wN rfl (X.storeE Tryz.sizeOf3 hB1 rfl rfl rfl rfl) ?_
      rintro _ w2 ⟨hB2, hx2, hz2⟩
      refine X.opsEnd ?_
      refine X.seq ?_
      refine X.region ?_
      refine X.opw X.wN rfl (X.assign rfl) ?_
      refine X.opsEnd ?_
      refine X.ret1 (v := (.int .i64 _)) Tryz.func28 Tryz.results28 rfl ?_
      have hxx : Ext (fun q => q = x) w w2 := (Ext.andThen (Ext.andThen (Ext.refl (fun q => q = x) _) hx1 (by intro q h1 h2; first | exact (h2 : False).elim | ((try simp only [] at h2); omega))) hx2 (by intro q h1 h2; first | exact (h2 : False).elim | ((try simp only [] at h2); omega)))
      have hx : Ext (fun q => col q ≠ 0) w w2 := (Ext.andThen (Ext.andThen (Ext.refl (fun q => col q ≠ 0) _) hx1 (by intro q h1 h2; first | exact (h2 : False).elim | exact h2 | (have h2 : q = _ := h2; subst h2; omega) | (have h2 : _ ≤ q := h2; omega) | (have h2 : _ ≤ q ∧ _ := h2; omega) | (rcases h2 with h2 | h2 <;> first | omega | (subst h2; omega)))) hx2 (by intro q h1 h2; first | exact (h2 : False).elim | exact h2 | (have h2 : q = _ := h2; subst h2; omega) | (have h2 : _ ≤ q := h2; omega) | (have h2 : _ ≤ q ∧ _ := h2; omega) | (rcases h2 with h2 | h2 <;> first | omega | (subst h2; omega))))
      have hR2 := h.set1 hxx hB2
      have e : t.fuse n = (0, { t with has := true, left := n }) := by simp only [RS.fuse, if_neg (show ¬ (n < 0 ∨ 1048576 < n) by omega)]
      rw [e]
      exact ⟨rfl, col, hR2.r, ⟨fun _ _ => rfl, hx⟩⟩
end Go.Proofs.YtcdebnppbnmmgaaGreat

namespace Go.Proofs.YtcdebnppbnmmgaaGreat
open Go Go.Proofs.YtcdebnppbnmmgaaGreat.X
set_option linter.unusedVariables false
set_option linter.unusedSimpArgs false
def RS.create (nm : ByteArray) (t : RS) : Int × RS := if t.down = true then (54, t) else if isNm nm = false then (51, t) else if 0 ≤ rfind nm t.dir then (50, t) else if 256 ≤ t.dir.length then (3, t)
  else (0, (({ t with fs := t.fs ++ [([], [], [])] } : RS).note (⟨#[]⟩, nm, (t.fs.length : Int))).did)
set_option maxHeartbeats 4000000 in
set_option maxRecDepth 100000 in
theorem RCreate_c {col : Nat → Nat} {x : Nat} {vF vD vX vC : Value} {pt : List Nat} {t : RS} (nm : ByteArray) (w : World) (h : RkB col w x vF vD vX vC pt t) (hok : t.Ok) (hmn : t.fs.length < 50000 ∧ t.chs.length < 50000) : Ret Tryz.prog 17 #[ptrV x, .string nm] w fun r w' => r = .int .i64 (t.create nm).1 ∧ ∃ col', RkR col' w' x (t.create nm).2 ∧ Stp col w col' w' := by
  obtain ⟨AD, cD, e, hcD, hsD⟩ := h.D.slF KEn_flat 0 (fun _ _ => Nat.zero_le _)
  subst e
  obtain ⟨AC, cC, e, hcC, hsC⟩ := h.C.slF KCh_flat 0 (fun _ _ => Nat.zero_le _)
  subst e
  obtain ⟨AF, cF, e, hcF, hsF⟩ := h.F.slF KRp_flat 0 (fun _ _ => Nat.zero_le _)
  subst e
  have hB := h.B
  have hxl := h.B.lt
  have hlt := h.lt
  have hcx := h.cx
  have hok1 := hok.few
  have hok2 := hok.many
  have hok3 := hok.left
  have hplx := h.pl
  refine X.enter Tryz.func17 rfl Tryz.ntmps17 rfl ?_
  refine X.seq ?_
  refine X.region ?_
  refine X.opw X.wN rfl (X.assign rfl) ?_
  refine X.opsEnd ?_
  refine X.seq ?_
  refine X.block ?_
  refine X.seq ?_
  refine X.region ?_
  refine X.opw X.wN rfl (X.move rfl) ?_
  refine X.opE X.wN rfl (X.callE (RDown_c _ (h.keep (Keep.refl _))) Tryz.call37 rfl rfl) ?_
  rintro _ w1 ⟨rfl, hk1⟩
  have hk1' := hk1.size
  refine X.opw X.wN rfl (X.assign (v := .bool _) rfl) ?_
  refine X.opsEnd ?_
  refine X.condB rfl (fun hd => ?_) (fun hd => ?_)
  · refine X.seq ?_
    refine X.region ?_
    refine X.opw X.wN rfl (X.assign rfl) ?_
    refine X.opsEnd ?_
    refine X.ret1 (v := (.int .i64 _)) Tryz.func17 Tryz.results17 rfl ?_
    have e : t.create nm = (54, t) := by simp only [RS.create, if_pos hd]
    rw [e]
    exact ⟨rfl, col, (h.keep hk1).r, Stp.keep hk1⟩
  · refine X.seq ?_
    refine X.region ?_
    refine X.opw X.wN rfl (X.move (v := .string _) rfl) ?_
    refine X.opE X.wN rfl (X.callE (IsName_c _ _) Tryz.call55 rfl rfl) ?_
    rintro _ w2 ⟨rfl, hk2⟩
    have hk2' := hk2.size
    refine X.opw X.wN rfl (X.not_ rfl) ?_
    refine X.opw X.wN rfl (X.assign (v := .bool _) rfl) ?_
    refine X.opsEnd ?_
    refine X.condB rfl (fun hn => ?_) (fun hn => ?_)
    · refine X.seq ?_
      refine X.region ?_
      refine X.opw X.wN rfl (X.assign rfl) ?_
      refine X.opsEnd ?_
      refine X.ret1 (v := (.int .i64 _)) Tryz.func17 Tryz.results17 rfl ?_
      have e : t.create nm = (51, t) := by simp only [RS.create, if_neg (show ¬ t.down = true by rw [hd]; decide), if_pos (show isNm nm = false by simpa using hn)]
      rw [e]
      exact ⟨rfl, col, (h.keep (hk1.trans hk2)).r, Stp.keep (hk1.trans hk2)⟩
    · refine X.seq ?_
      refine X.region ?_
      refine X.opw X.wN rfl (X.move rfl) ?_
      refine X.opw X.wN rfl (X.nilCk rfl) ?_
      refine X.opw X.wN rfl (X.fldB (j := 2) Tryz.underlying83 rfl rfl Tryz.sizeOf80 rfl) ?_
      refine X.opw X.wN rfl (X.load1B Tryz.isAgg80 (hB.keep (hk1.trans hk2)) rfl rfl) ?_
      refine X.opw X.wN rfl (X.move (v := .string _) rfl) ?_
      refine X.opE X.wN rfl (X.callE (Find_c nm _ (hsD.keep (hk1.trans hk2)) (by omega)) Tryz.call56 rfl rfl) ?_
      rintro _ w3 ⟨rfl, hk3⟩
      have hk3' := hk3.size
      refine X.opP X.wN rfl rfl (X.geq rfl rfl) (fun h19 => ?_) (fun h19 => ?_)
      · refine X.opw X.wN rfl (X.assign (v := .bool true) rfl) ?_
        refine X.opsEnd ?_
        refine X.condT rfl ?_
        refine X.seq ?_
        refine X.region ?_
        refine X.opw X.wN rfl (X.assign rfl) ?_
        refine X.opsEnd ?_
        refine X.ret1 (v := (.int .i64 _)) Tryz.func17 Tryz.results17 rfl ?_
        have e : t.create nm = (50, t) := by simp only [RS.create, if_neg (show ¬ t.down = true by rw [hd]; decide), if_neg (show ¬ isNm nm = false by simpa using hn), if_pos (show 0 ≤ rfind nm t.dir by omega)]
        rw [e]
        exact ⟨rfl, col, (h.keep ((hk1.trans hk2).trans hk3)).r, Stp.keep ((hk1.trans hk2).trans hk3)⟩
      · refine X.opw X.wN rfl (X.assign (v := .bool false) rfl) ?_
        refine X.opsEnd ?_
        refine X.condF rfl ?_
        refine X.seq ?_
        refine X.region ?_
        refine X.opw X.wN rfl (X.move rfl) ?_
        refine X.opw X.wN rfl (X.nilCk rfl) ?_
        refine X.opw X.wN rfl (X.fldB (j := 2) Tryz.underlying83 rfl rfl Tryz.sizeOf80 rfl) ?_
        refine X.opw X.wN rfl (X.load1B Tryz.isAgg80 (hB.keep ((hk1.trans hk2).trans hk3)) rfl rfl) ?_
        refine X.opw X.wN rfl (X.lenSl Tryz.underlying80 rfl) ?_
        refine X.opP X.wN rfl rfl (X.geq rfl rfl) (fun h26 => ?_) (fun h26 => ?_)
        · refine X.opw X.wN rfl (X.assign (v := .bool true) rfl) ?_
          refine X.opsEnd ?_
          refine X.condT rfl ?_
          refine X.seq ?_
          refine X.region ?_
          refine X.opw X.wN rfl (X.assign rfl) ?_
          refine X.opsEnd ?_
          refine X.ret1 (v := (.int .i64 _)) Tryz.func17 Tryz.results17 rfl ?_
          have e : t.create nm = (3, t) := by simp only [RS.create, if_neg (show ¬ t.down = true by rw [hd]; decide), if_neg (show ¬ isNm nm = false by simpa using hn), if_neg (show ¬ 0 ≤ rfind nm t.dir by omega), if_pos (show 256 ≤ t.dir.length by omega)]
          rw [e]
          exact ⟨rfl, col, (h.keep ((hk1.trans hk2).trans hk3)).r, Stp.keep ((hk1.trans hk2).trans hk3)⟩
        · refine X.opw X.wN rfl (X.assign (v := .bool false) rfl) ?_
          refine X.opsEnd ?_
          refine X.condF rfl ?_
          refine X.skip ?_
          refine X.inBlock ?_
          refine X.seq ?_
          refine X.region ?_
          refine X.opw X.wN rfl (X.move rfl) ?_
          refine X.opw X.wN rfl (X.move rfl) ?_
          refine X.opw X.wN rfl (X.nilCk rfl) ?_
          refine X.opw X.wN rfl (X.fldB (j := 1) Tryz.underlying83 rfl rfl Tryz.sizeOf79 rfl) ?_
          refine X.opw X.wN rfl (X.load1B Tryz.isAgg79 (hB.keep ((hk1.trans hk2).trans hk3)) rfl rfl) ?_
          refine X.opw X.wN rfl (X.buildB (vs := []) (cs := #[.slice none 0 0, .slice none 0 0, .slice none 0 0]) rfl (by kernel_rfl)) ?_
          refine X.opE X.wN rfl (X.boxE rfl rfl) ?_
          rintro _ w4 ⟨rfl, hB4, hk4, hz4⟩
          refine X.opE X.wN rfl (X.litKF KRp_flat (K := KRp) (xs := [Operand.tmp 33]) (vs := [.pointer (some ⟨w3.heap.size, 0, none⟩)]) (ys := [w3.heap.size]) Tryz.underlying79 Tryz.sizeOf108 Tryz.zeroValue108 rfl rfl rfl rfl rfl (repsRp _)) ?_
          rintro _ w5 ⟨rfl, hs5, hB5, hk5, hz5⟩
          refine X.opE X.wN rfl (X.appE (K := KRp) (S := fun q => col q = 2 ∨ w5.heap.size ≤ q) KRp_flat Tryz.underlying79 ERp rfl rfl (Mine.mono (T := fun q => col q = 2 ∨ w5.heap.size ≤ q) (((((h.F.keep hk1).keep hk2).keep hk3).keep hk4).keep hk5) (fun q _ h => .inl h)) hs5 (by (try simp only [List.length_append, List.length_cons, List.length_nil, List.length_take, List.length_drop, List.length_map, List.length_range]); omega) (by intros; right; omega)) ?_
          rintro vF' w6 ⟨hMf, hx6⟩
          have hx6' := hx6.size
          refine X.opw X.wN rfl (X.nilCk rfl) ?_
          refine X.opw X.wN rfl (X.fldB (j := 1) Tryz.underlying83 rfl rfl Tryz.sizeOf79 rfl) ?_
          have q7 := hMf.slF KRp_flat 0 (fun _ _ => Nat.zero_le _)
          obtain ⟨A7, c7, rfl, hc7, hs7⟩ := q7
          refine X.opE X.wN rfl (X.storeE Tryz.sizeOf79 ((hB.keep ((((hk1.trans hk2).trans hk3).trans hk4).trans hk5)).ext hx6 (by first | (intro q g1 g2 g3; first | (have g3 : q = _ := g3; omega) | (have g3 : _ ≤ q := g3; omega) | omega | (have g3 : _ ∨ _ := g3; rcases g3 with g3 | g3 <;> omega)) | (intro hh; first | (have hh : _ = _ := hh; omega) | (have hh : _ ≤ _ := hh; omega) | (have hh : _ ∨ _ := hh; rcases hh with hh | hh <;> first | omega | (have hq := hlt _ (fun e => absurd (hh.symm.trans e) (by decide)); omega))) | (intros; omega) | (intro q g1 g2; first | (have g2 : q = _ := g2; omega) | (have g2 : _ ≤ q := g2; omega)))) rfl rfl rfl (by obtain ⟨A', c', e, _⟩ := hMf.slice; rw [e]; rfl)) ?_
          rintro _ w8 ⟨hB8, hx8, hz8⟩
          refine X.opsEnd ?_
          refine X.seq ?_
          refine X.region ?_
          refine X.opw X.wN rfl (X.move rfl) ?_
          refine X.opw X.wN rfl (X.move (v := .string _) rfl) ?_
          refine X.opw X.wN rfl (X.move rfl) ?_
          refine X.opw X.wN rfl (X.nilCk rfl) ?_
          refine X.opw X.wN rfl (X.fldB (j := 1) Tryz.underlying83 rfl rfl Tryz.sizeOf79 rfl) ?_
          refine X.opw X.wN rfl (X.load1B Tryz.isAgg79 hB8 rfl rfl) ?_
          refine X.opw X.wN rfl (X.lenSl Tryz.underlying79 rfl) ?_
          refine X.opw X.wN rfl (X.sub (c := (t.fs.length : Int)) rfl rfl (by rw [show ((pt ++ [w3.heap.size]).length : Int) - 1 = (t.fs.length : Int) by rw [List.length_append, List.length_singleton]; omega]; exact X.w_i64 (by omega))) ?_
          refine X.opw X.wN rfl (X.buildB (vs := [(1, .string nm), (2, .int .i64 (t.fs.length : Int))]) (cs := #[.string ⟨#[]⟩, .string nm, .int .i64 (t.fs.length : Int)]) rfl (by kernel_rfl)) ?_
          have hbf1 : w.heap.size ≤ w3.heap.size ∧ w3.heap.size < w8.heap.size := ⟨by omega, ((((hB4.keep hk5).ext hx6 (by first | (intro q g1 g2 g3; first | (have g3 : q = _ := g3; omega) | (have g3 : _ ≤ q := g3; omega) | omega | (have g3 : _ ∨ _ := g3; rcases g3 with g3 | g3 <;> omega)) | (intro hh; first | (have hh : _ = _ := hh; omega) | (have hh : _ ≤ _ := hh; omega) | (have hh : _ ∨ _ := hh; rcases hh with hh | hh <;> first | omega | (have hq := hlt _ (fun e => absurd (hh.symm.trans e) (by decide)); omega))) | (intros; omega) | (intro q g1 g2; first | (have g2 : q = _ := g2; omega) | (have g2 : _ ≤ q := g2; omega)))).ext hx8 (by first | (intro q g1 g2 g3; first | (have g3 : q = _ := g3; omega) | (have g3 : _ ≤ q := g3; omega) | omega | (have g3 : _ ∨ _ := g3; rcases g3 with g3 | g3 <;> omega)) | (intro hh; first | (have hh : _ = _ := hh; omega) | (have hh : _ ≤ _ := hh; omega) | (have hh : _ ∨ _ := hh; rcases hh with hh | hh <;> first | omega | (have hq := hlt _ (fun e => absurd (hh.symm.trans e) (by decide)); omega))) | (intros; omega) | (intro q g1 g2; first | (have g2 : q = _ := g2; omega) | (have g2 : _ ≤ q := g2; omega))))).lt⟩
          have hx9 : Ext (fun q => col q = 1 ∨ col q = 2) w w8 := (Ext.andThen (Ext.andThen (Ext.andThen (Ext.andThen (Ext.andThen (Ext.andThen (Ext.andThen (Ext.refl (fun q => col q = 1 ∨ col q = 2) _) hk1 (by intro q h1 h2; first | exact (h2 : False).elim | exact h2 | (have h2 : q = _ := h2; subst h2; omega) | (have h2 : _ ∨ _ := h2; rcases h2 with h2 | h2 <;> omega))) hk2 (by intro q h1 h2; first | exact (h2 : False).elim | exact h2 | (have h2 : q = _ := h2; subst h2; omega) | (have h2 : _ ∨ _ := h2; rcases h2 with h2 | h2 <;> omega))) hk3 (by intro q h1 h2; first | exact (h2 : False).elim | exact h2 | (have h2 : q = _ := h2; subst h2; omega) | (have h2 : _ ∨ _ := h2; rcases h2 with h2 | h2 <;> omega))) hk4 (by intro q h1 h2; first | exact (h2 : False).elim | exact h2 | (have h2 : q = _ := h2; subst h2; omega) | (have h2 : _ ∨ _ := h2; rcases h2 with h2 | h2 <;> omega))) hk5 (by intro q h1 h2; first | exact (h2 : False).elim | exact h2 | (have h2 : q = _ := h2; subst h2; omega) | (have h2 : _ ∨ _ := h2; rcases h2 with h2 | h2 <;> omega))) hx6 (by intro q h1 h2; first | exact (h2 : False).elim | exact h2 | (have h2 : q = _ := h2; subst h2; omega) | (have h2 : _ ∨ _ := h2; rcases h2 with h2 | h2 <;> omega))) hx8 (by intro q h1 h2; first | exact (h2 : False).elim | exact h2 | (have h2 : q = _ := h2; subst h2; omega) | (have h2 : _ ∨ _ := h2; rcases h2 with h2 | h2 <;> omega)))
          have hx9s := hx9.size
          obtain ⟨cl9, hcl9⟩ : ∃ cl9 : Nat → Nat, cl9 = fun q => if q < w.heap.size then col q else if q = w3.heap.size then 4 + 3 * t.fs.length else if q < w8.heap.size then 2 else 0 := ⟨_, rfl⟩
          have ho9 : ∀ q, q < w.heap.size → cl9 q = col q := fun q hq => by rw [hcl9]; exact if_pos hq
          have hb9 : cl9 w3.heap.size = 4 + 3 * t.fs.length := by rw [hcl9]; exact (if_neg (by omega)).trans (if_pos rfl)
          have hn9 : ∀ q, w.heap.size ≤ q → q ≠ w3.heap.size → q < w8.heap.size → cl9 q = 2 := fun q h1 h2 h3 => by rw [hcl9]; exact (if_neg (by omega)).trans ((if_neg h2).trans (if_pos h3))
          have hl9 : ∀ q, cl9 q ≠ 0 → q < w8.heap.size := fun q hq => by
            rw [hcl9] at hq; simp only at hq
            split at hq
            · omega
            · split at hq
              · omega
              · split at hq
                · assumption
                · exact absurd rfl hq
          have P9 := h.part (col' := cl9) (fun v => v = 1 ∨ v = 2) hx9 ho9 (fun q _ ht => ht)
          have h9 : RkB cl9 w8 x (.slice A7 (pt ++ [w3.heap.size]).length c7) (.slice AD t.dir.length cD) vX (.slice AC t.chs.length cC) (pt ++ [w3.heap.size]) { t with fs := t.fs ++ [([], [], [])] } := by
            refine ⟨hB8, ((hMf.ext hx8 (by intros; omega) (by intro q g1 g2; (try dsimp only at g1); (try dsimp only at g2); first | omega | (have g2 : q = _ := g2; subst g2; omega) | (subst g2; omega)))).mono (fun q hq hS => ?_), P9.D (by omega), P9.X (by omega), P9.C (by omega), P9.cx, hl9, by simp [h.pl], fun k p f a1 a2 => ?_⟩
            · show cl9 q = 2
              rcases hS with hS | hS
              · rw [ho9 q (by have := hlt q (by omega); omega)]; exact hS
              · exact hn9 q (by omega) (by omega) hq
            · have hpl := h.pl
              by_cases hk : k < t.fs.length
              · rw [List.getElem?_append_left (by omega)] at a1
                have a2' : (t.fs ++ [([], [], [])])[k]? = some f := a2
                rw [List.getElem?_append_left hk] at a2'
                exact P9.fl k p f a1 a2' (by omega) (fun j _ _ => by omega)
              · have a2' : (t.fs ++ [([], [], [])])[k]? = some f := a2
                have hk2 : k < (t.fs ++ [([], [], [])]).length := (List.getElem?_eq_some_iff.1 a2').1
                rw [List.length_append, List.length_singleton] at hk2
                have hk3 : k = t.fs.length := by omega
                subst hk3
                rw [List.getElem?_append_right (by omega), hpl, Nat.sub_self] at a1
                rw [List.getElem?_append_right (Nat.le_refl _), Nat.sub_self] at a2'
                cases a1; cases a2'
                exact ⟨_, _, _, (((hB4.keep hk5).ext hx6 (by first | (intro q g1 g2 g3; first | (have g3 : q = _ := g3; omega) | (have g3 : _ ≤ q := g3; omega) | omega | (have g3 : _ ∨ _ := g3; rcases g3 with g3 | g3 <;> omega)) | (intro hh; first | (have hh : _ = _ := hh; omega) | (have hh : _ ≤ _ := hh; omega) | (have hh : _ ∨ _ := hh; rcases hh with hh | hh <;> first | omega | (have hq := hlt _ (fun e => absurd (hh.symm.trans e) (by decide)); omega))) | (intros; omega) | (intro q g1 g2; first | (have g2 : q = _ := g2; omega) | (have g2 : _ ≤ q := g2; omega)))).ext hx8 (by first | (intro q g1 g2 g3; first | (have g3 : q = _ := g3; omega) | (have g3 : _ ≤ q := g3; omega) | omega | (have g3 : _ ∨ _ := g3; rcases g3 with g3 | g3 <;> omega)) | (intro hh; first | (have hh : _ = _ := hh; omega) | (have hh : _ ≤ _ := hh; omega) | (have hh : _ ∨ _ := hh; rcases hh with hh | hh <;> first | omega | (have hq := hlt _ (fun e => absurd (hh.symm.trans e) (by decide)); omega))) | (intros; omega) | (intro q g1 g2; first | (have g2 : q = _ := g2; omega) | (have g2 : _ ≤ q := g2; omega)))), hb9, Mine.nil _ _ _ _ _ _, Mine.nil _ _ _ _ _ _, Mine.nil _ _ _ _ _ _⟩
          refine X.opE X.wN rfl (X.callE (change_c (⟨#[]⟩, nm, (t.fs.length : Int)) _ h9 ⟨by (try dsimp only); omega, by (try dsimp only); omega⟩) Tryz.call57 rfl rfl) ?_
          rintro _ w9 ⟨rfl, vD', vC', col1, hold1, hnew1, hR1, hx9⟩
          have hx9' := hx9.size
          refine X.opsEnd ?_
          refine X.seq ?_
          refine X.region ?_
          refine X.opw X.wN rfl (X.move rfl) ?_
          refine X.opE X.wN rfl (X.callE (Rdid_c _ hR1 (by (try simp only [RS.note]); omega)) Tryz.call58 rfl rfl) ?_
          rintro _ w10 ⟨rfl, hR2, hx10⟩
          have hx10' := hx10.size
          refine X.opw X.wN rfl (X.assign (v := .int .i64 _) rfl) ?_
          refine X.opsEnd ?_
          refine X.ret1 (v := (.int .i64 _)) Tryz.func17 Tryz.results17 rfl ?_
          have hx : Ext (fun q => col q ≠ 0) w w10 := (Ext.andThen (Ext.andThen (Ext.andThen (Ext.andThen (Ext.andThen (Ext.andThen (Ext.andThen (Ext.andThen (Ext.andThen (Ext.refl (fun q => col q ≠ 0) _) hk1 (by intro q h1 h2; first | exact (h2 : False).elim | (have h2 : q = _ := h2; subst h2; omega) | (have h2 : _ ∨ _ := h2; rcases h2 with h2 | h2 <;> omega))) hk2 (by intro q h1 h2; first | exact (h2 : False).elim | (have h2 : q = _ := h2; subst h2; omega) | (have h2 : _ ∨ _ := h2; rcases h2 with h2 | h2 <;> omega))) hk3 (by intro q h1 h2; first | exact (h2 : False).elim | (have h2 : q = _ := h2; subst h2; omega) | (have h2 : _ ∨ _ := h2; rcases h2 with h2 | h2 <;> omega))) hk4 (by intro q h1 h2; first | exact (h2 : False).elim | (have h2 : q = _ := h2; subst h2; omega) | (have h2 : _ ∨ _ := h2; rcases h2 with h2 | h2 <;> omega))) hk5 (by intro q h1 h2; first | exact (h2 : False).elim | (have h2 : q = _ := h2; subst h2; omega) | (have h2 : _ ∨ _ := h2; rcases h2 with h2 | h2 <;> omega))) hx6 (by intro q h1 h2; first | exact (h2 : False).elim | (have h2 : q = _ := h2; subst h2; omega) | (have h2 : _ ∨ _ := h2; rcases h2 with h2 | h2 <;> omega))) hx8 (by intro q h1 h2; first | exact (h2 : False).elim | (have h2 : q = _ := h2; subst h2; omega) | (have h2 : _ ∨ _ := h2; rcases h2 with h2 | h2 <;> omega))) hx9 (by intro q h1 h2; first | exact (h2 : False).elim | (have h2 : q = _ := h2; subst h2; omega) | (have h2 : _ ∨ _ := h2; rcases h2 with h2 | h2 <;> omega))) hx10 (by intro q h1 h2; first | exact (h2 : False).elim | (have h2 : q = _ := h2; subst h2; omega) | (have h2 : _ ∨ _ := h2; rcases h2 with h2 | h2 <;> omega)))
          have e : t.create nm = (0, (({ t with fs := t.fs ++ [([], [], [])] } : RS).note (⟨#[]⟩, nm, (t.fs.length : Int))).did) := by simp only [RS.create, if_neg (show ¬ t.down = true by rw [hd]; decide), if_neg (show ¬ isNm nm = false by simpa using hn), if_neg (show ¬ 0 ≤ rfind nm t.dir by omega), if_neg (show ¬ 256 ≤ t.dir.length by omega)]
          rw [e]
          exact ⟨rfl, col1, hR2.r, ⟨fun q hq => (hold1 q (by omega)).trans (ho9 q hq), hx⟩⟩
end Go.Proofs.YtcdebnppbnmmgaaGreat
