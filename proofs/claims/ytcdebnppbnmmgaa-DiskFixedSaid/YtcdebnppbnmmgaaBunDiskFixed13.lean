/- Texts that the proof of DiskFixed stands on, part 13. -/
import Derived.Test.YtcdebnppbnmmgaaProg
import Derived.Test.YtcdebnppbnmmgaaBunDiskFixed12

namespace Go.Proofs.Ytcdebnppbnmmgaa
open Go Go.Proofs.Ytcdebnppbnmmgaa.X
set_option linter.unusedVariables false
set_option linter.unusedSimpArgs false
theorem E8e : ByteInfo Try.prog 5 := ByteInfo.of (by kernel_rfl)
/-- Bytes written into bytes, at a place. -/
def wrt (b : List UInt8) (a : Nat) (x : List UInt8) : List UInt8 := (fun y : List UInt8 => y.take a ++ x ++ y.drop (a + x.length)) (b ++ List.replicate (max b.length (a + x.length) - b.length) 0)
/-- Sectors marked, so many from one on. -/
def markL (k : Int) : Nat → Nat → LS → LS
  | _, 0, l => l
  | s, n + 1, l => markL k (s + 1) n (put (k, (s : Int)) true l)
def secs (n : Nat) : Nat := (n + 63) / 64
def touched (a n : Nat) : Nat := if n = 0 then 0 else secs (a + n) - a / 64
def DS.write (nm : ByteArray) (a : Int) (x : List UInt8) (s : DS) : Int × DS :=
  if s.down = true then (54, s) else match asc nm s.dir with
  | none => (52, s)
  | some k => if a < 0 ∨ ((fat s.fs k).1.length : Int) < a then (5, s) else if 1048576 - a < (x.length : Int) then (2, s)
    else if s.rm < (s.used : Int) + (secs (max (fat s.fs k).1.length (a.toNat + x.length)) : Int) - (secs (fat s.fs k).1.length : Int) then (53, s)
    else (0, ({ s with fs := s.fs.set k.toNat (wrt (fat s.fs k).1 a.toNat x, (fat s.fs k).2), ls := markL k (a.toNat / 64) (touched a.toNat x.length) s.ls } : DS).did)
theorem wrt_len (b : List UInt8) (a : Nat) (x : List UInt8) (h : a ≤ b.length) : (wrt b a x).length = max b.length (a + x.length) := by
  simp only [wrt, List.length_append, List.length_take, List.length_drop, List.length_replicate]; omega
-- f8 "(*pedigree/disk.Disk).Write" params [26, 9, 3, 22] results [27] -> [(ResultVar.tmp 8)] nfree 0 ntmps 12
set_option maxHeartbeats 4000000 in
set_option maxRecDepth 100000 in
theorem Write_c {col : Nat → Nat} {b bf bd bx bl : Nat} {A : Option Addr} {n c : Nat} {pt : List Nat} {s0 : DS} {lo hi m2 cy : Nat} {Ay : Option Addr} {y : List UInt8} (nm : ByteArray) (a : Int) (w : World) (h : DkB col w b bf bd bx bl A n c pt s0) (hok : s0.Ok) (ha : -9223372036854775808 ≤ a ∧ a ≤ 9223372036854775807) (hy : Sl KB lo hi w Ay m2 y) (hy0 : ∀ q, lo ≤ q → q < hi → col q = 0 ∧ q < w.heap.size) (hym : m2 ≤ 1000000000) : Ret Try.prog 8 #[ptrV b, .string nm, .int .i64 a, .slice Ay m2 cy] w fun r w' => r = .int .i64 (s0.write nm a y).1 ∧ ∃ col', DkR col' w' b (s0.write nm a y).2 ∧ Stp col w col' w' := by
  have hbl := h.B.lt
  have hfl := h.F.lt
  have hdl := h.G.lt
  have hxl := h.X.lt
  have hll := h.L.lt
  have hcb := h.cb
  have hcf := h.cf
  have hcd := h.cd
  have hcx := h.cx
  have hcl := h.cl
  obtain ⟨z1, z2, z3, z4, z5, z6, z7, z8, z9, z10⟩ := h.ne
  have hlt := h.lt
  have hok1 := hok.lf
  have hok2 := hok.few
  have hyl := hy.len
  have hub := hok.used
  have hrm := hok.rm
  refine X.enter Try.func8 rfl Try.ntmps8 rfl ?_
  refine X.seq ?_
  refine X.region ?_
  refine X.opw X.wN rfl (X.assign rfl) ?_
  refine X.opsEnd ?_
  refine X.seq ?_
  refine X.seq ?_
  refine X.region ?_
  refine X.opw X.wN rfl (X.move rfl) ?_
  refine X.opE X.wN rfl (X.callE (may_c _ h.B) Try.call25 rfl rfl) ?_
  rintro _ w1 ⟨rfl, hk1⟩
  have hk1' := hk1.size
  refine X.opw X.wN rfl (X.assign (v := .int .i64 _) rfl) ?_
  refine X.opsEnd ?_
  refine X.seq ?_
  refine X.region ?_
  refine X.opw X.wN rfl (X.move (v := .int .i64 _) rfl) ?_
  refine X.opP X.wN rfl rfl (X.neI rfl rfl) (fun h19 => ?_) (fun h19 => ?_)
  · have hd : (s0.fu && decide (s0.lf ≤ 0)) = true := by
      cases hq : (s0.fu && decide (s0.lf ≤ 0)) with
      | true => rfl
      | false => rw [hq] at h19; simp at h19
    have hD : s0.down = true := hd
    refine X.opsEnd ?_
    refine X.condT rfl ?_
    refine X.seq ?_
    refine X.region ?_
    refine X.opw X.wN rfl (X.move (v := .int .i64 _) rfl) ?_
    refine X.opw X.wN rfl (X.assign (v := .int .i64 _) rfl) ?_
    refine X.opsEnd ?_
    refine X.ret1 (v := (.int .i64 _)) Try.func8 Try.results8 rfl ?_
    have e : s0.write nm a y = (54, s0) := by simp only [DS.write, if_pos hD]
    rw [e]
    exact ⟨by rw [if_pos hd], col, (h.keep hk1).r, Stp.keep hk1⟩
  · have hd : ¬ (s0.fu && decide (s0.lf ≤ 0)) = true := by
      cases hq : (s0.fu && decide (s0.lf ≤ 0)) with
      | false => simp
      | true => rw [hq] at h19; simp at h19
    have hD : ¬ s0.down = true := hd
    refine X.opsEnd ?_
    refine X.condF rfl ?_
    refine X.skip ?_
    refine X.seq ?_
    refine X.region ?_
    refine X.opw X.wN rfl (X.move rfl) ?_
    refine X.opw X.wN rfl (X.move (v := .string _) rfl) ?_
    refine X.opE X.wN rfl (X.callE (named_c nm _ (h.B.keep hk1) (h.G.keep hk1) (h.F.keep hk1)) Try.call29 rfl rfl) ?_
    rintro _ w2 ⟨rfl, hk2⟩
    have hk2' := hk2.size
    refine X.opw X.wN rfl (X.move rfl) ?_
    refine X.opw X.wN rfl (X.extr rfl rfl) ?_
    refine X.opw X.wN rfl (X.extr rfl rfl) ?_
    refine X.opw X.wN rfl (X.extr rfl rfl) ?_
    refine X.opw X.wN rfl (X.assign (v := .int .i64 _) rfl) ?_
    refine X.opw X.wN rfl (X.assign rfl) ?_
    refine X.opw X.wN rfl (X.assign (v := .bool _) rfl) ?_
    refine X.opsEnd ?_
    refine X.seq ?_
    refine X.block ?_
    refine X.seq ?_
    refine X.region ?_
    refine X.opw X.wN rfl (X.move (v := .bool _) rfl) ?_
    refine X.opw X.wN rfl (X.not_ rfl) ?_
    refine X.opw X.wN rfl (X.assign (v := .bool _) rfl) ?_
    refine X.opsEnd ?_
    refine X.condB rfl (fun hc => ?_) (fun hc => ?_)
    · have hno : asc nm s0.dir = none := by
        cases ha : asc nm s0.dir with
        | none => rfl
        | some k => rw [ha] at hc; simp at hc
      refine X.seq ?_
      refine X.region ?_
      refine X.opw X.wN rfl (X.assign rfl) ?_
      refine X.opsEnd ?_
      refine X.ret1 (v := (.int .i64 _)) Try.func8 Try.results8 rfl ?_
      have e : s0.write nm a y = (52, s0) := by simp only [DS.write, if_neg hD, hno]
      rw [e]
      exact ⟨rfl, col, (h.keep (hk1.trans hk2)).r, Stp.keep (hk1.trans hk2)⟩
    · obtain ⟨k, hfa⟩ : ∃ k, asc nm s0.dir = some k := by
        cases ha : asc nm s0.dir with
        | none => rw [ha] at hc; simp at hc
        | some k => exact ⟨k, rfl⟩
      obtain ⟨hka, hkb, _⟩ := hok.dir _ (asc_some hfa)
      have hka : 0 ≤ k := hka
      have hkb : k < s0.fs.length := hkb
      obtain ⟨pf, f, A1, n1, c1, A2, n2, c2, hfb, hpf, hff, hn1, hn2, hfl1, hpc, hBf, hM1, hM2⟩ := h.at_ hka hkb
      have hlf := hok.len hff
      have hpl2 := hBf.lt
      rw [hfa, Option.getD_some, hfb, Option.getD_some]
      have hfat := fat_at hff
      have hfl2 : f.1.length = n1 := hn1.symm
      refine X.seq ?_
      refine X.region ?_
      refine X.opw X.wN rfl (X.move (v := .int .i64 _) rfl) ?_
      refine X.opP X.wN rfl rfl (X.lss rfl rfl) (fun h33 => ?_) (fun h33 => ?_)
      · refine X.opw X.wN rfl (X.move (v := .bool true) rfl) ?_
        refine X.opS rfl rfl rfl rfl rfl ?_
        refine X.opS rfl rfl rfl rfl rfl ?_
        refine X.opS rfl rfl rfl rfl rfl ?_
        refine X.opS rfl rfl rfl rfl rfl ?_
        refine X.opS rfl rfl rfl rfl rfl ?_
        refine X.opS rfl rfl rfl rfl rfl ?_
        refine X.opS rfl rfl rfl rfl rfl ?_
        refine X.opw X.wN rfl (X.pickT (v := .bool true) rfl rfl) ?_
        refine X.opw X.wN rfl (X.assign (v := .bool true) rfl) ?_
        refine X.opsEnd ?_
        refine X.condT rfl ?_
        refine X.seq ?_
        refine X.region ?_
        refine X.opw X.wN rfl (X.assign rfl) ?_
        refine X.opsEnd ?_
        refine X.ret1 (v := (.int .i64 _)) Try.func8 Try.results8 rfl ?_
        have e : s0.write nm a y = (5, s0) := by
          simp only [DS.write, if_neg hD, hfa, hfat]
          rw [if_pos (by omega)]
        rw [e]
        exact ⟨rfl, col, (h.keep (hk1.trans hk2)).r, Stp.keep (hk1.trans hk2)⟩
      · obtain ⟨p, rfl⟩ := Int.eq_ofNat_of_zero_le (show 0 ≤ a by omega)
        refine X.opw X.wN rfl (X.move (v := .bool false) rfl) ?_
        refine X.opw (X.wG rfl rfl rfl) rfl (X.move (v := .int .i64 _) rfl) ?_
        refine X.opw (X.wG rfl rfl rfl) rfl (X.move rfl) ?_
        refine X.opw (X.wG rfl rfl rfl) rfl (X.nilCk rfl) ?_
        refine X.opw (X.wG rfl rfl rfl) rfl (X.fldB (j := 0) Try.underlying73 rfl rfl Try.sizeOf22 rfl) ?_
        refine X.opw (X.wG rfl rfl rfl) rfl (X.load1B Try.isAgg22 (hBf.keep (hk1.trans hk2)) rfl rfl) ?_
        refine X.opw (X.wG rfl rfl rfl) rfl (X.lenSl Try.underlying22 rfl) ?_
        refine X.opP (X.wG rfl rfl rfl) rfl rfl (X.gtr rfl rfl) (fun h41 => ?_) (fun h41 => ?_)
        · refine X.opw X.wN rfl (X.pickF (v := .bool true) rfl rfl) ?_
          refine X.opw X.wN rfl (X.assign (v := .bool true) rfl) ?_
          refine X.opsEnd ?_
          refine X.condT rfl ?_
          refine X.seq ?_
          refine X.region ?_
          refine X.opw X.wN rfl (X.assign rfl) ?_
          refine X.opsEnd ?_
          refine X.ret1 (v := (.int .i64 _)) Try.func8 Try.results8 rfl ?_
          have e : s0.write nm (p : Int) y = (5, s0) := by
            simp only [DS.write, if_neg hD, hfa, hfat]
            rw [if_pos (by omega)]
          rw [e]
          exact ⟨rfl, col, (h.keep (hk1.trans hk2)).r, Stp.keep (hk1.trans hk2)⟩
        · refine X.opw X.wN rfl (X.pickF (v := .bool false) rfl rfl) ?_
          refine X.opw X.wN rfl (X.assign (v := .bool false) rfl) ?_
          refine X.opsEnd ?_
          refine X.condF rfl ?_
          refine X.seq ?_
          refine X.region ?_
          refine X.opw X.wN rfl (X.move rfl) ?_
          refine X.opw X.wN rfl (X.lenSl Try.underlying22 rfl) ?_
          refine X.opw X.wN rfl (X.move (v := .int .i64 _) rfl) ?_
          refine X.opw X.wN rfl (X.sub rfl rfl (X.w_i64 (by omega))) ?_
          refine X.opP X.wN rfl rfl (X.gtr rfl rfl) (fun h48 => ?_) (fun h48 => ?_)
          · refine X.opw X.wN rfl (X.assign (v := .bool true) rfl) ?_
            refine X.opsEnd ?_
            refine X.condT rfl ?_
            refine X.seq ?_
            refine X.region ?_
            refine X.opw X.wN rfl (X.assign rfl) ?_
            refine X.opsEnd ?_
            refine X.ret1 (v := (.int .i64 _)) Try.func8 Try.results8 rfl ?_
            have e : s0.write nm (p : Int) y = (2, s0) := by
              simp only [DS.write, if_neg hD, hfa, hfat]
              rw [if_neg (by omega), if_pos (by omega)]
            rw [e]
            exact ⟨rfl, col, (h.keep (hk1.trans hk2)).r, Stp.keep (hk1.trans hk2)⟩
          · refine X.opw X.wN rfl (X.assign (v := .bool false) rfl) ?_
            refine X.opsEnd ?_
            refine X.condF rfl ?_
            refine X.skip ?_
            refine X.inBlock ?_
            refine X.seq ?_
            refine X.region ?_
            refine X.opw X.wN rfl (X.move (v := .int .i64 _) rfl) ?_
            refine X.opw X.wN rfl (X.move rfl) ?_
            refine X.opw X.wN rfl (X.lenSl Try.underlying22 rfl) ?_
            refine X.opw X.wN rfl (X.add (c := ((p + m2 : Nat) : Int)) rfl rfl (by rw [X.w_i64 (by omega)]; omega)) ?_
            refine X.opw X.wN rfl (X.assign (v := .int .i64 _) rfl) ?_
            refine X.opsEnd ?_
            refine X.seq ?_
            refine X.region ?_
            refine X.opw X.wN rfl (X.move rfl) ?_
            refine X.opw X.wN rfl (X.nilCk rfl) ?_
            refine X.opw X.wN rfl (X.fldB (j := 0) Try.underlying73 rfl rfl Try.sizeOf22 rfl) ?_
            refine X.opw X.wN rfl (X.load1B Try.isAgg22 (hBf.keep (hk1.trans hk2)) rfl rfl) ?_
            refine X.opw X.wN rfl (X.lenSl Try.underlying22 rfl) ?_
            refine X.opw X.wN rfl (X.move (v := .int .i64 _) rfl) ?_
            refine X.opw X.wN rfl (X.maxII (c := ((max n1 (p + m2) : Nat) : Int)) rfl rfl (by split <;> omega)) ?_
            refine X.opw X.wN rfl (X.assign (v := .int .i64 _) rfl) ?_
            refine X.opsEnd ?_
            refine X.seq ?_
            refine X.seq ?_
            refine X.regionD (fun _ => False) 17 (by kernel_rfl) (by kernel_rfl) (fun w3 hk3 hz3 => ?_)
            refine X.dTake 0 rfl (by kernel_rfl) (by kernel_rfl) (by kernel_rfl) (X.dwN rfl) (fun w' hk' => X.move rfl) ?_
            refine X.dTake 2 rfl (by kernel_rfl) (by kernel_rfl) (by kernel_rfl) (X.dwN rfl) (fun w' hk' => X.move (v := .int .i64 _) rfl) ?_
            refine X.dTake 5 rfl (by kernel_rfl) (by kernel_rfl) (by kernel_rfl) (X.dwN rfl) (fun w' hk' => X.move rfl) ?_
            refine X.dTake 6 rfl (by kernel_rfl) (by kernel_rfl) (by kernel_rfl) (X.dwN rfl) (fun w' hk' => X.nilCk rfl) ?_
            refine X.dTake 7 rfl (by kernel_rfl) (by kernel_rfl) (by kernel_rfl) (X.dwN rfl) (fun w' hk' => X.fldB (j := 0) Try.underlying73 rfl rfl Try.sizeOf22 rfl) ?_
            refine X.dTake 8 rfl (by kernel_rfl) (by kernel_rfl) (by kernel_rfl) (X.dwN rfl) (fun w' hk' => X.load1B Try.isAgg22 (hBf.keep (((hk1.trans hk2).trans hk3).trans hk')) rfl rfl) ?_
            refine X.dTake 9 rfl (by kernel_rfl) (by kernel_rfl) (by kernel_rfl) (X.dwN rfl) (fun w' hk' => X.lenSl Try.underlying22 rfl) ?_
            refine X.dTake 12 rfl (by kernel_rfl) (by kernel_rfl) (by kernel_rfl) (X.dwN rfl) (fun w' hk' => X.move rfl) ?_
            refine X.dTake 13 rfl (by kernel_rfl) (by kernel_rfl) (by kernel_rfl) (X.dwN rfl) (fun w' hk' => X.nilCk rfl) ?_
            refine X.dTake 14 rfl (by kernel_rfl) (by kernel_rfl) (by kernel_rfl) (X.dwN rfl) (fun w' hk' => X.fldB (j := 0) Try.underlying60 rfl rfl Try.sizeOf3 rfl) ?_
            refine X.dTake 15 rfl (by kernel_rfl) (by kernel_rfl) (by kernel_rfl) (X.dwN rfl) (fun w' hk' => X.load1B Try.isAgg3 (h.B.keep (((hk1.trans hk2).trans hk3).trans hk')) rfl rfl) ?_
            refine X.dE (i := 1) (by kernel_rfl) rfl (X.dwN rfl) (X.callE (used_c _ (h.keep ((hk1.trans hk2).trans hk3)) hok) Try.call30 rfl rfl) (by rintro _ w4 ⟨rfl, hk4⟩ _; exact hk4.mono (fun _ _ h => h.elim)) ?_
            rintro _ w4 ⟨rfl, hk4⟩
            have hk4' := hk4.size
            refine X.dE (i := 3) (by kernel_rfl) rfl (X.dwN rfl) (X.callE (sectors_c _ _ (by omega)) Try.call31 rfl rfl) (by rintro _ w5 ⟨rfl, hk5⟩ _; exact hk5.mono (fun _ _ h => h.elim)) ?_
            rintro _ w5 ⟨rfl, hk5⟩
            have hk5' := hk5.size
            refine X.dTake 4 rfl (by kernel_rfl) (by kernel_rfl) (by kernel_rfl) (X.dwN rfl) (fun w' hk' => X.add rfl rfl (X.w_i64 (by omega))) ?_
            refine X.dE (i := 10) (by kernel_rfl) rfl (X.dwN rfl) (X.callE (sectors_c _ _ (by omega)) Try.call31 rfl rfl) (by rintro _ w6 ⟨rfl, hk6⟩ _; exact hk6.mono (fun _ _ h => h.elim)) ?_
            rintro _ w6 ⟨rfl, hk6⟩
            have hk6' := hk6.size
            refine X.dTake 11 rfl (by kernel_rfl) (by kernel_rfl) (by kernel_rfl) (X.dwN rfl) (fun w' hk' => X.sub rfl rfl (X.w_i64 (by omega))) ?_
            refine X.dTake 16 rfl (by kernel_rfl) (by kernel_rfl) (by kernel_rfl) (X.dwN rfl) (fun w' hk' => X.gtr rfl rfl) ?_
            refine X.dEnd (by kernel_rfl) ?_
            refine X.condB rfl (fun h76 => ?_) (fun h76 => ?_)
            · have h76 := of_decide_eq_true h76
              refine X.seq ?_
              refine X.region ?_
              refine X.opw X.wN rfl (X.assign rfl) ?_
              refine X.opsEnd ?_
              refine X.ret1 (v := (.int .i64 _)) Try.func8 Try.results8 rfl ?_
              have e : s0.write nm (p : Int) y = (53, s0) := by
                simp only [DS.write, if_neg hD, hfa, hfat]
                rw [if_neg (by omega), if_neg (by omega), Int.toNat_natCast, hyl, hfl2, if_pos (by rw [secs, secs]; omega)]
              rw [e]
              exact ⟨rfl, col, (h.keep (((((hk1.trans hk2).trans hk3).trans hk4).trans hk5).trans hk6)).r, Stp.keep (((((hk1.trans hk2).trans hk3).trans hk4).trans hk5).trans hk6)⟩
            · have h76 := of_decide_eq_false h76
              refine X.skip ?_
              refine X.seq ?_
              refine X.regionD (fun q => col q = 8 + 3 * k.toNat ∨ w.heap.size ≤ q) 13 (by kernel_rfl) (by kernel_rfl) (fun w7 hk7 hz7 => ?_)
              refine X.dTake 0 rfl (by kernel_rfl) (by kernel_rfl) (by kernel_rfl) (X.dwN rfl) (fun w' hk' => X.move rfl) ?_
              refine X.dTake 1 rfl (by kernel_rfl) (by kernel_rfl) (by kernel_rfl) (X.dwN rfl) (fun w' hk' => X.move rfl) ?_
              refine X.dTake 2 rfl (by kernel_rfl) (by kernel_rfl) (by kernel_rfl) (X.dwN rfl) (fun w' hk' => X.nilCk rfl) ?_
              refine X.dTake 3 rfl (by kernel_rfl) (by kernel_rfl) (by kernel_rfl) (X.dwN rfl) (fun w' hk' => X.fldB (j := 0) Try.underlying73 rfl rfl Try.sizeOf22 rfl) ?_
              refine X.dTake 4 rfl (by kernel_rfl) (by kernel_rfl) (by kernel_rfl) (X.dwN rfl) (fun w' hk' => X.load1B Try.isAgg22 ((hBf.keep ((((((hk1.trans hk2).trans hk3).trans hk4).trans hk5).trans hk6).trans hk7)).ext hk' (by first | (intros; (try simp only [] at *); omega) | (intro hh; (try simp only [] at hh); omega) | (intro q h1 h2; (try simp only [] at h1 h2); have := hlt q (by omega); omega) | (intro hh; have hh : _ = _ := hh; subst hh; omega) | (intro q h1 h2; have h2 : q = _ := h2; subst h2; (try simp only [] at h1); omega) | (intro q h1 h2; (try simp only [] at h1 h2); omega) | (intro q h1 h2; have h2 : q = _ := h2; have := hlt q (by (try simp only [] at h1); omega); omega) | (intro q h1 h2; (try simp only [] at h1 h2); rcases h2 with h2 | h2 | h2 <;> first | omega | (subst h2; omega)) | (intro q h1 h2; (try simp only [] at h1 h2); rcases h2 with h2 | h2 | h2 | h2 <;> first | omega | (subst h2; omega)))) rfl rfl) ?_
              refine X.dTake 5 rfl (by kernel_rfl) (by kernel_rfl) (by kernel_rfl) (X.dwN rfl) (fun w' hk' => X.move (v := .int .i64 _) rfl) ?_
              refine X.dTake 6 rfl (by kernel_rfl) (by kernel_rfl) (by kernel_rfl) (X.dwN rfl) (fun w' hk' => X.move rfl) ?_
              refine X.dTake 7 rfl (by kernel_rfl) (by kernel_rfl) (by kernel_rfl) (X.dwN rfl) (fun w' hk' => X.nilCk rfl) ?_
              refine X.dTake 8 rfl (by kernel_rfl) (by kernel_rfl) (by kernel_rfl) (X.dwN rfl) (fun w' hk' => X.fldB (j := 0) Try.underlying73 rfl rfl Try.sizeOf22 rfl) ?_
              refine X.dTake 9 rfl (by kernel_rfl) (by kernel_rfl) (by kernel_rfl) (X.dwN rfl) (fun w' hk' => X.load1B Try.isAgg22 ((hBf.keep ((((((hk1.trans hk2).trans hk3).trans hk4).trans hk5).trans hk6).trans hk7)).ext hk' (by first | (intros; (try simp only [] at *); omega) | (intro hh; (try simp only [] at hh); omega) | (intro q h1 h2; (try simp only [] at h1 h2); have := hlt q (by omega); omega) | (intro hh; have hh : _ = _ := hh; subst hh; omega) | (intro q h1 h2; have h2 : q = _ := h2; subst h2; (try simp only [] at h1); omega) | (intro q h1 h2; (try simp only [] at h1 h2); omega) | (intro q h1 h2; have h2 : q = _ := h2; have := hlt q (by (try simp only [] at h1); omega); omega) | (intro q h1 h2; (try simp only [] at h1 h2); rcases h2 with h2 | h2 | h2 <;> first | omega | (subst h2; omega)) | (intro q h1 h2; (try simp only [] at h1 h2); rcases h2 with h2 | h2 | h2 | h2 <;> first | omega | (subst h2; omega)))) rfl rfl) ?_
              refine X.dTake 10 rfl (by kernel_rfl) (by kernel_rfl) (by kernel_rfl) (X.dwN rfl) (fun w' hk' => X.lenSl Try.underlying22 rfl) ?_
              refine X.dTake 11 rfl (by kernel_rfl) (by kernel_rfl) (by kernel_rfl) (X.dwN rfl) (fun w' hk' => X.sub (c := ((max n1 (p + m2) - n1 : Nat) : Int)) rfl rfl (by rw [X.w_i64 (by omega)]; omega)) ?_
              refine X.dE (i := 12) (by kernel_rfl) rfl (X.dwN rfl) (X.appMkR (S := fun q => col q = 8 + 3 * k.toNat ∨ w.heap.size ≤ q) Try.underlying22 Try.underlying3 E8e rfl rfl (by omega) (Row.mono (T := fun q => col q = 8 + 3 * k.toNat ∨ w.heap.size ≤ q) (((((((hM1.keep hk1).keep hk2).keep hk3).keep hk4).keep hk5).keep hk6).keep hk7) (by intro q _ hS; exact .inl hS)) (by (try simp only [Int.toNat_natCast]); omega) (by intro q hq; right; omega)) (by rintro vA w8 ⟨hMa, hxa⟩ _; exact hxa.mono (fun k _ h => by (try simp only [] at *); omega)) ?_
              rintro vA w8 ⟨hMa, hxa⟩
              have hxa' := hxa.size
              refine X.dStep (i := 13) (by kernel_rfl) rfl (X.dwN rfl) (X.nilCk rfl) (fun h => absurd h (by decide)) ?_
              refine X.dStep (i := 14) (by kernel_rfl) rfl (X.dwN rfl) (X.fldB (j := 0) Try.underlying73 rfl rfl Try.sizeOf22 rfl) (fun h => absurd h (by decide)) ?_
              have q9 := hMa.slF KB_flat 0 (fun _ _ => Nat.zero_le _)
              obtain ⟨A9, c9, rfl, hc9, hs9⟩ := q9
              refine X.dE (i := 15) (by kernel_rfl) rfl (X.dwN rfl) (X.storeE Try.sizeOf22 ((hBf.keep ((((((hk1.trans hk2).trans hk3).trans hk4).trans hk5).trans hk6).trans hk7)).ext hxa (by first | (intros; (try simp only [] at *); omega) | (intro hh; (try simp only [] at hh); omega) | (intro q h1 h2; (try simp only [] at h1 h2); have := hlt q (by omega); omega) | (intro hh; have hh : _ = _ := hh; subst hh; omega) | (intro q h1 h2; have h2 : q = _ := h2; subst h2; (try simp only [] at h1); omega) | (intro q h1 h2; (try simp only [] at h1 h2); omega) | (intro q h1 h2; have h2 : q = _ := h2; have := hlt q (by (try simp only [] at h1); omega); omega) | (intro q h1 h2; (try simp only [] at h1 h2); rcases h2 with h2 | h2 | h2 <;> first | omega | (subst h2; omega)) | (intro q h1 h2; (try simp only [] at h1 h2); rcases h2 with h2 | h2 | h2 | h2 <;> first | omega | (subst h2; omega)))) rfl rfl rfl rfl) (fun _ _ _ h => absurd h (by decide)) ?_
              rintro _ w10 ⟨hB10, hx10, hz10⟩
              refine X.dEnd (by kernel_rfl) ?_
              refine X.seq ?_
              refine X.region ?_
              refine X.opw X.wN rfl (X.move rfl) ?_
              refine X.opw X.wN rfl (X.nilCk rfl) ?_
              refine X.opw X.wN rfl (X.fldB (j := 0) Try.underlying73 rfl rfl Try.sizeOf22 rfl) ?_
              refine X.opw X.wN rfl (X.load1B Try.isAgg22 hB10 rfl rfl) ?_
              refine X.opw X.wN rfl (X.move (v := .int .i64 _) rfl) ?_
              refine X.opw X.wN rfl (X.move (v := .int .i64 _) rfl) ?_
              refine X.opw X.wN rfl (X.move (v := .int .i64 _) rfl) ?_
              refine X.opw X.wN rfl (X.cut3N (p := p) (m := m2) Try.underlying22 Try.sizeOf5 rfl rfl rfl rfl (by have := hc9; simp only [List.length_append, List.length_replicate, Int.toNat_natCast] at this; omega)) ?_
              refine X.opw X.wN rfl (X.move rfl) ?_
              have hcap3 := ((hMa.ext hx10 (by intros; omega) (by first | (intros; (try simp only [] at *); omega) | (intro hh; (try simp only [] at hh); omega) | (intro q h1 h2; (try simp only [] at h1 h2); have := hlt q (by omega); omega) | (intro hh; have hh : _ = _ := hh; subst hh; omega) | (intro q h1 h2; have h2 : q = _ := h2; subst h2; (try simp only [] at h1); omega) | (intro q h1 h2; (try simp only [] at h1 h2); omega) | (intro q h1 h2; have h2 : q = _ := h2; have := hlt q (by (try simp only [] at h1); omega); omega) | (intro q h1 h2; (try simp only [] at h1 h2); rcases h2 with h2 | h2 | h2 <;> first | omega | (subst h2; omega)) | (intro q h1 h2; (try simp only [] at h1 h2); rcases h2 with h2 | h2 | h2 | h2 <;> first | omega | (subst h2; omega)))).rd KB_flat).1
              refine X.opE X.wN rfl (X.copyR (K := KB) (p := p) (m := m2) KB_flat (by decide) Try.underlying22 Try.sizeOf5 rfl rfl (hMa.ext hx10 (by intros; omega) (by first | (intros; (try simp only [] at *); omega) | (intro hh; (try simp only [] at hh); omega) | (intro q h1 h2; (try simp only [] at h1 h2); have := hlt q (by omega); omega) | (intro hh; have hh : _ = _ := hh; subst hh; omega) | (intro q h1 h2; have h2 : q = _ := h2; subst h2; (try simp only [] at h1); omega) | (intro q h1 h2; (try simp only [] at h1 h2); omega) | (intro q h1 h2; have h2 : q = _ := h2; have := hlt q (by (try simp only [] at h1); omega); omega) | (intro q h1 h2; (try simp only [] at h1 h2); rcases h2 with h2 | h2 | h2 <;> first | omega | (subst h2; omega)) | (intro q h1 h2; (try simp only [] at h1 h2); rcases h2 with h2 | h2 | h2 | h2 <;> first | omega | (subst h2; omega)))) (by rw [List.length_append, List.length_replicate, Int.toNat_natCast]; omega) (((((((((hy.keep hk1).keep hk2).keep hk3).keep hk4).keep hk5).keep hk6).keep hk7).ext hxa (by intro q g1 g2 g3; have hy1 := hy0 q g1 g2; first | omega | ((try simp only [] at g3); omega) | (have g3 : q = _ := g3; subst g3; omega) | (rcases g3 with g3 | g3 <;> first | omega | (subst g3; omega)))).ext hx10 (by intro q g1 g2 g3; have hy1 := hy0 q g1 g2; first | omega | ((try simp only [] at g3); omega) | (have g3 : q = _ := g3; subst g3; omega) | (rcases g3 with g3 | g3 <;> first | omega | (subst g3; omega))))) ?_
              rintro _ w11 ⟨rfl, hMc, hxc, hzc⟩
              refine X.opsEnd ?_
              refine X.seq ?_
              refine X.seq ?_
              refine X.region ?_
              refine X.opw X.wN rfl (X.move (v := .int .i64 _) rfl) ?_
              refine X.opw X.wN rfl (X.quo (c := ((p / 64 : Nat) : Int)) rfl rfl (by decide) (by rw [show ((p : Nat) : Int).tdiv 64 = ((p / 64 : Nat) : Int) from rfl]; exact X.w_i64 (by omega))) ?_
              refine X.opw X.wN rfl (X.assign (v := .int .i64 _) rfl) ?_
              refine X.opsEnd ?_
              refine X.block ?_
              -- LOOP live: 0=d, 3=b, 10=n, 13=end, 15=s*
              have gB := ((((h.B.keep ((((((hk1.trans hk2).trans hk3).trans hk4).trans hk5).trans hk6).trans hk7)).ext hxa (by first | (intros; (try simp only [] at *); omega) | (intro hh; (try simp only [] at hh); omega) | (intro q h1 h2; (try simp only [] at h1 h2); have := hlt q (by omega); omega) | (intro hh; have hh : _ = _ := hh; subst hh; omega) | (intro q h1 h2; have h2 : q = _ := h2; subst h2; (try simp only [] at h1); omega) | (intro q h1 h2; (try simp only [] at h1 h2); omega) | (intro q h1 h2; have h2 : q = _ := h2; have := hlt q (by (try simp only [] at h1); omega); omega) | (intro q h1 h2; (try simp only [] at h1 h2); rcases h2 with h2 | h2 | h2 <;> first | omega | (subst h2; omega)) | (intro q h1 h2; (try simp only [] at h1 h2); rcases h2 with h2 | h2 | h2 | h2 <;> first | omega | (subst h2; omega)))).ext hx10 (by first | (intros; (try simp only [] at *); omega) | (intro hh; (try simp only [] at hh); omega) | (intro q h1 h2; (try simp only [] at h1 h2); have := hlt q (by omega); omega) | (intro hh; have hh : _ = _ := hh; subst hh; omega) | (intro q h1 h2; have h2 : q = _ := h2; subst h2; (try simp only [] at h1); omega) | (intro q h1 h2; (try simp only [] at h1 h2); omega) | (intro q h1 h2; have h2 : q = _ := h2; have := hlt q (by (try simp only [] at h1); omega); omega) | (intro q h1 h2; (try simp only [] at h1 h2); rcases h2 with h2 | h2 | h2 <;> first | omega | (subst h2; omega)) | (intro q h1 h2; (try simp only [] at h1 h2); rcases h2 with h2 | h2 | h2 | h2 <;> first | omega | (subst h2; omega)))).ext hxc (by first | (intros; (try simp only [] at *); omega) | (intro hh; (try simp only [] at hh); omega) | (intro q h1 h2; (try simp only [] at h1 h2); have := hlt q (by omega); omega) | (intro hh; have hh : _ = _ := hh; subst hh; omega) | (intro q h1 h2; have h2 : q = _ := h2; subst h2; (try simp only [] at h1); omega) | (intro q h1 h2; (try simp only [] at h1 h2); omega) | (intro q h1 h2; have h2 : q = _ := h2; have := hlt q (by (try simp only [] at h1); omega); omega) | (intro q h1 h2; (try simp only [] at h1 h2); rcases h2 with h2 | h2 | h2 <;> first | omega | (subst h2; omega)) | (intro q h1 h2; (try simp only [] at h1 h2); rcases h2 with h2 | h2 | h2 | h2 <;> first | omega | (subst h2; omega))))
              have gF := (hB10.ext hxc (by first | (intros; (try simp only [] at *); omega) | (intro hh; (try simp only [] at hh); omega) | (intro q h1 h2; (try simp only [] at h1 h2); have := hlt q (by omega); omega) | (intro hh; have hh : _ = _ := hh; subst hh; omega) | (intro q h1 h2; have h2 : q = _ := h2; subst h2; (try simp only [] at h1); omega) | (intro q h1 h2; (try simp only [] at h1 h2); omega) | (intro q h1 h2; have h2 : q = _ := h2; have := hlt q (by (try simp only [] at h1); omega); omega) | (intro q h1 h2; (try simp only [] at h1 h2); rcases h2 with h2 | h2 | h2 <;> first | omega | (subst h2; omega)) | (intro q h1 h2; (try simp only [] at h1 h2); rcases h2 with h2 | h2 | h2 | h2 <;> first | omega | (subst h2; omega))))
              have gM1 := hMc
              have gM2 := ((((((((((hM2.keep hk1).keep hk2).keep hk3).keep hk4).keep hk5).keep hk6).keep hk7).ext hxa (by intros; omega) (by first | (intros; (try simp only [] at *); omega) | (intro hh; (try simp only [] at hh); omega) | (intro q h1 h2; (try simp only [] at h1 h2); have := hlt q (by omega); omega) | (intro hh; have hh : _ = _ := hh; subst hh; omega) | (intro q h1 h2; have h2 : q = _ := h2; subst h2; (try simp only [] at h1); omega) | (intro q h1 h2; (try simp only [] at h1 h2); omega) | (intro q h1 h2; have h2 : q = _ := h2; have := hlt q (by (try simp only [] at h1); omega); omega) | (intro q h1 h2; (try simp only [] at h1 h2); rcases h2 with h2 | h2 | h2 <;> first | omega | (subst h2; omega)) | (intro q h1 h2; (try simp only [] at h1 h2); rcases h2 with h2 | h2 | h2 | h2 <;> first | omega | (subst h2; omega)))).ext hx10 (by intros; omega) (by first | (intros; (try simp only [] at *); omega) | (intro hh; (try simp only [] at hh); omega) | (intro q h1 h2; (try simp only [] at h1 h2); have := hlt q (by omega); omega) | (intro hh; have hh : _ = _ := hh; subst hh; omega) | (intro q h1 h2; have h2 : q = _ := h2; subst h2; (try simp only [] at h1); omega) | (intro q h1 h2; (try simp only [] at h1 h2); omega) | (intro q h1 h2; have h2 : q = _ := h2; have := hlt q (by (try simp only [] at h1); omega); omega) | (intro q h1 h2; (try simp only [] at h1 h2); rcases h2 with h2 | h2 | h2 <;> first | omega | (subst h2; omega)) | (intro q h1 h2; (try simp only [] at h1 h2); rcases h2 with h2 | h2 | h2 | h2 <;> first | omega | (subst h2; omega)))).ext hxc (by intros; omega) (by first | (intros; (try simp only [] at *); omega) | (intro hh; (try simp only [] at hh); omega) | (intro q h1 h2; (try simp only [] at h1 h2); have := hlt q (by omega); omega) | (intro hh; have hh : _ = _ := hh; subst hh; omega) | (intro q h1 h2; have h2 : q = _ := h2; subst h2; (try simp only [] at h1); omega) | (intro q h1 h2; (try simp only [] at h1 h2); omega) | (intro q h1 h2; have h2 : q = _ := h2; have := hlt q (by (try simp only [] at h1); omega); omega) | (intro q h1 h2; (try simp only [] at h1 h2); rcases h2 with h2 | h2 | h2 <;> first | omega | (subst h2; omega)) | (intro q h1 h2; (try simp only [] at h1 h2); rcases h2 with h2 | h2 | h2 | h2 <;> first | omega | (subst h2; omega))))
              have gL := ((((((((((h.L.keep hk1).keep hk2).keep hk3).keep hk4).keep hk5).keep hk6).keep hk7).ext hxa (by first | (intros; (try simp only [] at *); omega) | (intro hh; (try simp only [] at hh); omega) | (intro q h1 h2; (try simp only [] at h1 h2); have := hlt q (by omega); omega) | (intro hh; have hh : _ = _ := hh; subst hh; omega) | (intro q h1 h2; have h2 : q = _ := h2; subst h2; (try simp only [] at h1); omega) | (intro q h1 h2; (try simp only [] at h1 h2); omega) | (intro q h1 h2; have h2 : q = _ := h2; have := hlt q (by (try simp only [] at h1); omega); omega) | (intro q h1 h2; (try simp only [] at h1 h2); rcases h2 with h2 | h2 | h2 <;> first | omega | (subst h2; omega)) | (intro q h1 h2; (try simp only [] at h1 h2); rcases h2 with h2 | h2 | h2 | h2 <;> first | omega | (subst h2; omega)))).ext hx10 (by first | (intros; (try simp only [] at *); omega) | (intro hh; (try simp only [] at hh); omega) | (intro q h1 h2; (try simp only [] at h1 h2); have := hlt q (by omega); omega) | (intro hh; have hh : _ = _ := hh; subst hh; omega) | (intro q h1 h2; have h2 : q = _ := h2; subst h2; (try simp only [] at h1); omega) | (intro q h1 h2; (try simp only [] at h1 h2); omega) | (intro q h1 h2; have h2 : q = _ := h2; have := hlt q (by (try simp only [] at h1); omega); omega) | (intro q h1 h2; (try simp only [] at h1 h2); rcases h2 with h2 | h2 | h2 <;> first | omega | (subst h2; omega)) | (intro q h1 h2; (try simp only [] at h1 h2); rcases h2 with h2 | h2 | h2 | h2 <;> first | omega | (subst h2; omega)))).ext hxc (by first | (intros; (try simp only [] at *); omega) | (intro hh; (try simp only [] at hh); omega) | (intro q h1 h2; (try simp only [] at h1 h2); have := hlt q (by omega); omega) | (intro hh; have hh : _ = _ := hh; subst hh; omega) | (intro q h1 h2; have h2 : q = _ := h2; subst h2; (try simp only [] at h1); omega) | (intro q h1 h2; (try simp only [] at h1 h2); omega) | (intro q h1 h2; have h2 : q = _ := h2; have := hlt q (by (try simp only [] at h1); omega); omega) | (intro q h1 h2; (try simp only [] at h1 h2); rcases h2 with h2 | h2 | h2 <;> first | omega | (subst h2; omega)) | (intro q h1 h2; (try simp only [] at h1 h2); rcases h2 with h2 | h2 | h2 | h2 <;> first | omega | (subst h2; omega))))
              have gx := (Ext.andThen (Ext.andThen (Ext.andThen (Ext.andThen (Ext.andThen (Ext.andThen (Ext.andThen (Ext.andThen (Ext.andThen (Ext.andThen (Ext.refl (fun q => col q = 1 ∨ col q = 5 ∨ col q = 7 + 3 * k.toNat ∨ col q = 8 + 3 * k.toNat ∨ w.heap.size ≤ q) _) hk1 (by intro q h1 h2; first | exact (h2 : False).elim | ((try simp only [] at h2); omega) | (have h2 : q = _ := h2; subst h2; omega))) hk2 (by intro q h1 h2; first | exact (h2 : False).elim | ((try simp only [] at h2); omega) | (have h2 : q = _ := h2; subst h2; omega))) hk3 (by intro q h1 h2; first | exact (h2 : False).elim | ((try simp only [] at h2); omega) | (have h2 : q = _ := h2; subst h2; omega))) hk4 (by intro q h1 h2; first | exact (h2 : False).elim | ((try simp only [] at h2); omega) | (have h2 : q = _ := h2; subst h2; omega))) hk5 (by intro q h1 h2; first | exact (h2 : False).elim | ((try simp only [] at h2); omega) | (have h2 : q = _ := h2; subst h2; omega))) hk6 (by intro q h1 h2; first | exact (h2 : False).elim | ((try simp only [] at h2); omega) | (have h2 : q = _ := h2; subst h2; omega))) hk7 (by intro q h1 h2; first | exact (h2 : False).elim | ((try simp only [] at h2); omega) | (have h2 : q = _ := h2; subst h2; omega))) hxa (by intro q h1 h2; first | exact (h2 : False).elim | ((try simp only [] at h2); omega) | (have h2 : q = _ := h2; subst h2; omega))) hx10 (by intro q h1 h2; first | exact (h2 : False).elim | ((try simp only [] at h2); omega) | (have h2 : q = _ := h2; subst h2; omega))) hxc (by intro q h1 h2; first | exact (h2 : False).elim | ((try simp only [] at h2); omega) | (have h2 : q = _ := h2; subst h2; omega)))
              have gxs := gx.size
              refine X.loopL (σ := Nat × LS) (fun s => [(0, ptrV b), (3, .slice Ay m2 cy), (10, .int .i64 k), (13, .int .i64 ((p + m2 : Nat) : Int)), (15, .int .i64 (s.1 : Int))]) (fun s w' => MPL w' bl s.2 ∧ p / 64 ≤ s.1 ∧ s.1 ≤ p / 64 + touched p m2 ∧ markL k s.1 (p / 64 + touched p m2 - s.1) s.2 = markL k (p / 64) (touched p m2) s0.ls ∧ Ext (fun q => q = bl) w11 w') (fun s => p / 64 + touched p m2 - s.1) (p / 64, s0.ls) ⟨rfl, rfl, rfl, rfl, rfl, trivial⟩ ⟨gL, Nat.le_refl _, by omega, by rw [show p / 64 + touched p m2 - p / 64 = touched p m2 by omega], Ext.refl _ _⟩ ?_
              rintro ⟨sn, l⟩ e w9 ⟨hL9, hs1, hs2, hmk, hx9⟩ hback
              dsimp only at hL9 hs1 hs2 hmk ⊢
              have hx9' := hx9.size
              have htc : m2 = 0 ∧ touched p m2 = 0 ∨ 0 < m2 ∧ touched p m2 = (p + m2 + 63) / 64 - p / 64 := by
                rw [touched]
                split
                · exact .inl ⟨by assumption, rfl⟩
                · exact .inr ⟨by omega, rfl⟩
              refine X.seq ?_
              refine X.seq ?_
              refine X.region ?_
              refine X.opw X.wN rfl (X.move (v := .int .i64 _) rfl) ?_
              refine X.opw X.wN rfl (X.move (v := .int .i64 _) rfl) ?_
              refine X.opE X.wN rfl (X.callE (sectors_c _ _ (by omega)) Try.call31 rfl rfl) ?_
              rintro _ w12 ⟨rfl, hk12⟩
              have hk12' := hk12.size
              refine X.opP X.wN rfl rfl (X.lss rfl rfl) (fun h107 => ?_) (fun h107 => ?_)
              · refine X.opw X.wN rfl (X.move (v := .bool true) rfl) ?_
                refine X.opw (X.wG rfl rfl rfl) rfl (X.move rfl) ?_
                refine X.opw (X.wG rfl rfl rfl) rfl (X.lenSl Try.underlying22 rfl) ?_
                refine X.opP (X.wG rfl rfl rfl) rfl rfl (X.gtr rfl rfl) (fun h111 => ?_) (fun h111 => ?_)
                · refine X.opw X.wN rfl (X.pickT (v := .bool true) rfl rfl) ?_
                  refine X.opsEnd ?_
                  refine X.condT rfl ?_
                  refine X.skip ?_
                  refine X.seq ?_
                  refine X.block ?_
                  refine X.region ?_
                  refine X.opw X.wN rfl (X.move rfl) ?_
                  refine X.opw X.wN rfl (X.nilCk rfl) ?_
                  refine X.opw X.wN rfl (X.fldB (j := 6) Try.underlying60 rfl rfl Try.sizeOf58 rfl) ?_
                  refine X.opw X.wN rfl (X.load1B Try.isAgg58 ((gB.ext hx9 (by first | (intros; (try simp only [] at *); omega) | (intro hh; (try simp only [] at hh); omega) | (intro q h1 h2; (try simp only [] at h1 h2); have := hlt q (by omega); omega) | (intro hh; have hh : _ = _ := hh; subst hh; omega) | (intro q h1 h2; have h2 : q = _ := h2; subst h2; (try simp only [] at h1); omega) | (intro q h1 h2; (try simp only [] at h1 h2); omega) | (intro q h1 h2; have h2 : q = _ := h2; have := hlt q (by (try simp only [] at h1); omega); omega) | (intro q h1 h2; (try simp only [] at h1 h2); rcases h2 with h2 | h2 | h2 <;> first | omega | (subst h2; omega)) | (intro q h1 h2; (try simp only [] at h1 h2); rcases h2 with h2 | h2 | h2 | h2 <;> first | omega | (subst h2; omega)))).keep hk12) rfl rfl) ?_
                  refine X.opw X.wN rfl (X.move (v := .int .i64 _) rfl) ?_
                  refine X.opw X.wN rfl (X.move (v := .int .i64 _) rfl) ?_
                  refine X.opw X.wN rfl (X.buildB (vs := [(0, .int .i64 k), (1, .int .i64 (sn : Int))]) (cs := #[.int .i64 k, .int .i64 (sn : Int)]) rfl (by kernel_rfl)) ?_
                  refine X.opE X.wN rfl (X.updateV (enc := fun x : Int × Int => encPl x) (venc := fun v : Bool => .bool v) (a := (k, (sn : Int))) (v := true) Try.underlying58 keyPl (hL9.keep hk12) rfl rfl rfl) ?_
                  rintro _ w13 ⟨hLm, hxm, hzm⟩
                  refine X.opsEnd ?_
                  refine X.inBlock ?_
                  refine X.region ?_
                  refine X.opw X.wN rfl (X.move (v := .int .i64 _) rfl) ?_
                  refine X.opw X.wN rfl (X.add (c := ((sn + 1 : Nat) : Int)) rfl rfl (by rw [X.w_i64 (by omega)]; omega)) ?_
                  refine X.opw X.wN rfl (X.assign (v := .int .i64 _) rfl) ?_
                  refine X.opsEnd ?_
                  refine hback (sn + 1, put (k, (sn : Int)) true l) _ _ ⟨rfl, rfl, rfl, rfl, rfl, trivial⟩ ⟨hLm, by omega, by (dsimp only); omega, ?_, (Ext.andThen (Ext.andThen (Ext.andThen (Ext.refl (fun q => q = bl) _) hx9 (by intro q h1 h2; first | exact (h2 : False).elim | exact h2)) hk12 (by intro q h1 h2; first | exact (h2 : False).elim | exact h2)) hxm (by intro q h1 h2; first | exact (h2 : False).elim | exact h2))⟩ (by (dsimp only); omega)
                  rw [← hmk, show p / 64 + touched p m2 - sn = (p / 64 + touched p m2 - (sn + 1)) + 1 by omega]
                  rfl
                · refine X.opw X.wN rfl (X.pickT (v := .bool false) rfl rfl) ?_
                  refine X.opsEnd ?_
                  refine X.condF rfl ?_
                  refine X.exit rfl ?_
                  refine X.seq ?_
                  refine X.region ?_
                  refine X.opw X.wN rfl (X.move rfl) ?_
                  refine X.opE X.wN rfl (X.callE (did_c _ ((gB.ext hx9 (by first | (intros; (try simp only [] at *); omega) | (intro hh; (try simp only [] at hh); omega) | (intro q h1 h2; (try simp only [] at h1 h2); have := hlt q (by omega); omega) | (intro hh; have hh : _ = _ := hh; subst hh; omega) | (intro q h1 h2; have h2 : q = _ := h2; subst h2; (try simp only [] at h1); omega) | (intro q h1 h2; (try simp only [] at h1 h2); omega) | (intro q h1 h2; have h2 : q = _ := h2; have := hlt q (by (try simp only [] at h1); omega); omega) | (intro q h1 h2; (try simp only [] at h1 h2); rcases h2 with h2 | h2 | h2 <;> first | omega | (subst h2; omega)) | (intro q h1 h2; (try simp only [] at h1 h2); rcases h2 with h2 | h2 | h2 | h2 <;> first | omega | (subst h2; omega)))).keep hk12) (by omega)) Try.call28 rfl rfl) ?_
                  rintro _ w14 ⟨rfl, hBd, hxd⟩
                  have hxd' := hxd.size
                  refine X.opw X.wN rfl (X.assign (v := .int .i64 _) rfl) ?_
                  refine X.opsEnd ?_
                  refine X.ret1 (v := (.int .i64 _)) Try.func8 Try.results8 rfl ?_
                  have hfull : markL k (p / 64) (touched p m2) s0.ls = l := by rw [← hmk, show p / 64 + touched p m2 - sn = 0 by omega]; rfl
                  have hx : Ext (fun q => col q = 1 ∨ col q = 5 ∨ col q = 7 + 3 * k.toNat ∨ col q = 8 + 3 * k.toNat) w w14 := ((Ext.andThen (Ext.andThen (Ext.andThen gx hx9 (by intro q h1 h2; first | exact (h2 : False).elim | ((try simp only [] at h2); omega) | (have h2 : q = _ := h2; subst h2; omega))) hk12 (by intro q h1 h2; first | exact (h2 : False).elim | ((try simp only [] at h2); omega) | (have h2 : q = _ := h2; subst h2; omega))) hxd (by intro q h1 h2; first | exact (h2 : False).elim | ((try simp only [] at h2); omega) | (have h2 : q = _ := h2; subst h2; omega)))).mono (fun q hq t => by (try simp only [] at t); omega)
                  have hxs := hx.size
                  obtain ⟨col', hcol⟩ : ∃ col', col' = rec' col w.heap.size w14.heap.size (8 + 3 * k.toNat) := ⟨_, rfl⟩
                  have hold : ∀ q, q < w.heap.size → col' q = col q := fun q hq => by rw [hcol]; exact rec_old hq
                  have hnew : ∀ q, w.heap.size ≤ q → q < w14.heap.size → col' q = 8 + 3 * k.toNat := fun q h1 h2 => by rw [hcol]; exact rec_new h1 h2
                  have hltc : ∀ q, col' q ≠ 0 → q < w14.heap.size := fun q hq => by rw [hcol] at hq; exact rec_lt hlt hxs hq
                  have P := h.part (col' := col') (fun v => v = 1 ∨ v = 5 ∨ v = 7 + 3 * k.toNat ∨ v = 8 + 3 * k.toNat) hx hold (fun q hq ht => ht)
                  have hst : Stp col w col' w14 := ⟨hold, hx.mono (fun q _ t => by (try simp only [] at t); omega)⟩
                  have hrs : (f.1 ++ List.replicate ((max n1 (p + m2) - n1 : Nat) : Int).toNat 0).take p ++ y ++ (f.1 ++ List.replicate ((max n1 (p + m2) - n1 : Nat) : Int).toNat 0).drop (p + m2) = wrt f.1 p y := by
                    simp only [wrt, Int.toNat_natCast, hyl, hfl2]
                  have e : s0.write nm (p : Int) y = (0, ({ s0 with fs := s0.fs.set k.toNat (wrt f.1 p y, f.2), ls := l } : DS).did) := by
                    simp only [DS.write, if_neg hD, hfa, hfat]
                    rw [if_neg (by omega), if_neg (by omega), Int.toNat_natCast, hyl, hfl2, if_neg (by rw [secs, secs]; omega), hfull]
                  rw [e]
                  refine ⟨rfl, col', ⟨bf, bd, bx, bl, A, n, c, pt, ?_, P.F (by omega), P.G (by omega), P.X (by omega), ((hL9.keep hk12).ext hxd (by first | (intros; (try simp only [] at *); omega) | (intro hh; (try simp only [] at hh); omega) | (intro q h1 h2; (try simp only [] at h1 h2); have := hlt q (by omega); omega) | (intro hh; have hh : _ = _ := hh; subst hh; omega) | (intro q h1 h2; have h2 : q = _ := h2; subst h2; (try simp only [] at h1); omega) | (intro q h1 h2; (try simp only [] at h1 h2); omega) | (intro q h1 h2; have h2 : q = _ := h2; have := hlt q (by (try simp only [] at h1); omega); omega) | (intro q h1 h2; (try simp only [] at h1 h2); rcases h2 with h2 | h2 | h2 <;> first | omega | (subst h2; omega)) | (intro q h1 h2; (try simp only [] at h1 h2); rcases h2 with h2 | h2 | h2 | h2 <;> first | omega | (subst h2; omega)))), P.M (by omega), P.cb, P.cf, P.cd, P.cx, P.cl, hltc, ?_, ?_⟩, hst⟩
                  · have := hBd
                    simp only [DS.did, List.length_set]
                    exact this
                  · simp only [DS.did, List.length_set]; exact P.pl
                  · intro j q g h1 h2
                    by_cases hj : j = k.toNat
                    · subst hj
                      rw [hpf] at h1
                      have h2' : (s0.fs.set k.toNat (wrt f.1 p y, f.2))[k.toNat]? = some g := h2
                      rw [List.getElem?_set_self (by omega)] at h2'
                      cases h1; cases h2'
                      exact ⟨(hold _ hpl2).trans hpc, _, _, _, _, _, _, (((gF.ext hx9 (by first | (intros; (try simp only [] at *); omega) | (intro hh; (try simp only [] at hh); omega) | (intro q h1 h2; (try simp only [] at h1 h2); have := hlt q (by omega); omega) | (intro hh; have hh : _ = _ := hh; subst hh; omega) | (intro q h1 h2; have h2 : q = _ := h2; subst h2; (try simp only [] at h1); omega) | (intro q h1 h2; (try simp only [] at h1 h2); omega) | (intro q h1 h2; have h2 : q = _ := h2; have := hlt q (by (try simp only [] at h1); omega); omega) | (intro q h1 h2; (try simp only [] at h1 h2); rcases h2 with h2 | h2 | h2 <;> first | omega | (subst h2; omega)) | (intro q h1 h2; (try simp only [] at h1 h2); rcases h2 with h2 | h2 | h2 | h2 <;> first | omega | (subst h2; omega)))).keep hk12).ext hxd (by first | (intros; (try simp only [] at *); omega) | (intro hh; (try simp only [] at hh); omega) | (intro q h1 h2; (try simp only [] at h1 h2); have := hlt q (by omega); omega) | (intro hh; have hh : _ = _ := hh; subst hh; omega) | (intro q h1 h2; have h2 : q = _ := h2; subst h2; (try simp only [] at h1); omega) | (intro q h1 h2; (try simp only [] at h1 h2); omega) | (intro q h1 h2; have h2 : q = _ := h2; have := hlt q (by (try simp only [] at h1); omega); omega) | (intro q h1 h2; (try simp only [] at h1 h2); rcases h2 with h2 | h2 | h2 <;> first | omega | (subst h2; omega)) | (intro q h1 h2; (try simp only [] at h1 h2); rcases h2 with h2 | h2 | h2 | h2 <;> first | omega | (subst h2; omega)))), (by rw [← hrs]; exact ((((gM1.ext hx9 (by intros; omega) (by first | (intros; (try simp only [] at *); omega) | (intro hh; (try simp only [] at hh); omega) | (intro q h1 h2; (try simp only [] at h1 h2); have := hlt q (by omega); omega) | (intro hh; have hh : _ = _ := hh; subst hh; omega) | (intro q h1 h2; have h2 : q = _ := h2; subst h2; (try simp only [] at h1); omega) | (intro q h1 h2; (try simp only [] at h1 h2); omega) | (intro q h1 h2; have h2 : q = _ := h2; have := hlt q (by (try simp only [] at h1); omega); omega) | (intro q h1 h2; (try simp only [] at h1 h2); rcases h2 with h2 | h2 | h2 <;> first | omega | (subst h2; omega)) | (intro q h1 h2; (try simp only [] at h1 h2); rcases h2 with h2 | h2 | h2 | h2 <;> first | omega | (subst h2; omega)))).keep hk12).ext hxd (by intros; omega) (by first | (intros; (try simp only [] at *); omega) | (intro hh; (try simp only [] at hh); omega) | (intro q h1 h2; (try simp only [] at h1 h2); have := hlt q (by omega); omega) | (intro hh; have hh : _ = _ := hh; subst hh; omega) | (intro q h1 h2; have h2 : q = _ := h2; subst h2; (try simp only [] at h1); omega) | (intro q h1 h2; (try simp only [] at h1 h2); omega) | (intro q h1 h2; have h2 : q = _ := h2; have := hlt q (by (try simp only [] at h1); omega); omega) | (intro q h1 h2; (try simp only [] at h1 h2); rcases h2 with h2 | h2 | h2 <;> first | omega | (subst h2; omega)) | (intro q h1 h2; (try simp only [] at h1 h2); rcases h2 with h2 | h2 | h2 | h2 <;> first | omega | (subst h2; omega))))).mono (fun q hq hS => hS.elim (fun hS => by rw [hold q (hlt q (by omega))]; exact hS) (fun hS => hnew q hS hq))), ((((gM2.ext hx9 (by intros; omega) (by first | (intros; (try simp only [] at *); omega) | (intro hh; (try simp only [] at hh); omega) | (intro q h1 h2; (try simp only [] at h1 h2); have := hlt q (by omega); omega) | (intro hh; have hh : _ = _ := hh; subst hh; omega) | (intro q h1 h2; have h2 : q = _ := h2; subst h2; (try simp only [] at h1); omega) | (intro q h1 h2; (try simp only [] at h1 h2); omega) | (intro q h1 h2; have h2 : q = _ := h2; have := hlt q (by (try simp only [] at h1); omega); omega) | (intro q h1 h2; (try simp only [] at h1 h2); rcases h2 with h2 | h2 | h2 <;> first | omega | (subst h2; omega)) | (intro q h1 h2; (try simp only [] at h1 h2); rcases h2 with h2 | h2 | h2 | h2 <;> first | omega | (subst h2; omega)))).keep hk12).ext hxd (by intros; omega) (by first | (intros; (try simp only [] at *); omega) | (intro hh; (try simp only [] at hh); omega) | (intro q h1 h2; (try simp only [] at h1 h2); have := hlt q (by omega); omega) | (intro hh; have hh : _ = _ := hh; subst hh; omega) | (intro q h1 h2; have h2 : q = _ := h2; subst h2; (try simp only [] at h1); omega) | (intro q h1 h2; (try simp only [] at h1 h2); omega) | (intro q h1 h2; have h2 : q = _ := h2; have := hlt q (by (try simp only [] at h1); omega); omega) | (intro q h1 h2; (try simp only [] at h1 h2); rcases h2 with h2 | h2 | h2 <;> first | omega | (subst h2; omega)) | (intro q h1 h2; (try simp only [] at h1 h2); rcases h2 with h2 | h2 | h2 | h2 <;> first | omega | (subst h2; omega)))).mono (fun q hq hS => by rw [hold q (hlt q (by (try simp only [] at hS); omega))]; exact hS))⟩
                    · have h2' : (s0.fs.set k.toNat (wrt f.1 p y, f.2))[j]? = some g := h2
                      rw [List.getElem?_set_ne (fun e => hj e.symm)] at h2'
                      exact P.fl j q g h1 h2' (fun v a1 a2 => by omega)
              · refine X.opw X.wN rfl (X.move (v := .bool false) rfl) ?_
                refine X.opS rfl rfl rfl rfl rfl ?_
                refine X.opS rfl rfl rfl rfl rfl ?_
                refine X.opS rfl rfl rfl rfl rfl ?_
                refine X.opw X.wN rfl (X.pickF (v := .bool false) rfl rfl) ?_
                refine X.opsEnd ?_
                refine X.condF rfl ?_
                refine X.exit rfl ?_
                refine X.seq ?_
                refine X.region ?_
                refine X.opw X.wN rfl (X.move rfl) ?_
                refine X.opE X.wN rfl (X.callE (did_c _ ((gB.ext hx9 (by first | (intros; (try simp only [] at *); omega) | (intro hh; (try simp only [] at hh); omega) | (intro q h1 h2; (try simp only [] at h1 h2); have := hlt q (by omega); omega) | (intro hh; have hh : _ = _ := hh; subst hh; omega) | (intro q h1 h2; have h2 : q = _ := h2; subst h2; (try simp only [] at h1); omega) | (intro q h1 h2; (try simp only [] at h1 h2); omega) | (intro q h1 h2; have h2 : q = _ := h2; have := hlt q (by (try simp only [] at h1); omega); omega) | (intro q h1 h2; (try simp only [] at h1 h2); rcases h2 with h2 | h2 | h2 <;> first | omega | (subst h2; omega)) | (intro q h1 h2; (try simp only [] at h1 h2); rcases h2 with h2 | h2 | h2 | h2 <;> first | omega | (subst h2; omega)))).keep hk12) (by omega)) Try.call28 rfl rfl) ?_
                rintro _ w15 ⟨rfl, hBd, hxd⟩
                have hxd' := hxd.size
                refine X.opw X.wN rfl (X.assign (v := .int .i64 _) rfl) ?_
                refine X.opsEnd ?_
                refine X.ret1 (v := (.int .i64 _)) Try.func8 Try.results8 rfl ?_
                have hfull : markL k (p / 64) (touched p m2) s0.ls = l := by rw [← hmk, show p / 64 + touched p m2 - sn = 0 by omega]; rfl
                have hx : Ext (fun q => col q = 1 ∨ col q = 5 ∨ col q = 7 + 3 * k.toNat ∨ col q = 8 + 3 * k.toNat) w w15 := ((Ext.andThen (Ext.andThen (Ext.andThen gx hx9 (by intro q h1 h2; first | exact (h2 : False).elim | ((try simp only [] at h2); omega) | (have h2 : q = _ := h2; subst h2; omega))) hk12 (by intro q h1 h2; first | exact (h2 : False).elim | ((try simp only [] at h2); omega) | (have h2 : q = _ := h2; subst h2; omega))) hxd (by intro q h1 h2; first | exact (h2 : False).elim | ((try simp only [] at h2); omega) | (have h2 : q = _ := h2; subst h2; omega)))).mono (fun q hq t => by (try simp only [] at t); omega)
                have hxs := hx.size
                obtain ⟨col', hcol⟩ : ∃ col', col' = rec' col w.heap.size w15.heap.size (8 + 3 * k.toNat) := ⟨_, rfl⟩
                have hold : ∀ q, q < w.heap.size → col' q = col q := fun q hq => by rw [hcol]; exact rec_old hq
                have hnew : ∀ q, w.heap.size ≤ q → q < w15.heap.size → col' q = 8 + 3 * k.toNat := fun q h1 h2 => by rw [hcol]; exact rec_new h1 h2
                have hltc : ∀ q, col' q ≠ 0 → q < w15.heap.size := fun q hq => by rw [hcol] at hq; exact rec_lt hlt hxs hq
                have P := h.part (col' := col') (fun v => v = 1 ∨ v = 5 ∨ v = 7 + 3 * k.toNat ∨ v = 8 + 3 * k.toNat) hx hold (fun q hq ht => ht)
                have hst : Stp col w col' w15 := ⟨hold, hx.mono (fun q _ t => by (try simp only [] at t); omega)⟩
                have hrs : (f.1 ++ List.replicate ((max n1 (p + m2) - n1 : Nat) : Int).toNat 0).take p ++ y ++ (f.1 ++ List.replicate ((max n1 (p + m2) - n1 : Nat) : Int).toNat 0).drop (p + m2) = wrt f.1 p y := by
                  simp only [wrt, Int.toNat_natCast, hyl, hfl2]
                have e : s0.write nm (p : Int) y = (0, ({ s0 with fs := s0.fs.set k.toNat (wrt f.1 p y, f.2), ls := l } : DS).did) := by
                  simp only [DS.write, if_neg hD, hfa, hfat]
                  rw [if_neg (by omega), if_neg (by omega), Int.toNat_natCast, hyl, hfl2, if_neg (by rw [secs, secs]; omega), hfull]
                rw [e]
                refine ⟨rfl, col', ⟨bf, bd, bx, bl, A, n, c, pt, ?_, P.F (by omega), P.G (by omega), P.X (by omega), ((hL9.keep hk12).ext hxd (by first | (intros; (try simp only [] at *); omega) | (intro hh; (try simp only [] at hh); omega) | (intro q h1 h2; (try simp only [] at h1 h2); have := hlt q (by omega); omega) | (intro hh; have hh : _ = _ := hh; subst hh; omega) | (intro q h1 h2; have h2 : q = _ := h2; subst h2; (try simp only [] at h1); omega) | (intro q h1 h2; (try simp only [] at h1 h2); omega) | (intro q h1 h2; have h2 : q = _ := h2; have := hlt q (by (try simp only [] at h1); omega); omega) | (intro q h1 h2; (try simp only [] at h1 h2); rcases h2 with h2 | h2 | h2 <;> first | omega | (subst h2; omega)) | (intro q h1 h2; (try simp only [] at h1 h2); rcases h2 with h2 | h2 | h2 | h2 <;> first | omega | (subst h2; omega)))), P.M (by omega), P.cb, P.cf, P.cd, P.cx, P.cl, hltc, ?_, ?_⟩, hst⟩
                · have := hBd
                  simp only [DS.did, List.length_set]
                  exact this
                · simp only [DS.did, List.length_set]; exact P.pl
                · intro j q g h1 h2
                  by_cases hj : j = k.toNat
                  · subst hj
                    rw [hpf] at h1
                    have h2' : (s0.fs.set k.toNat (wrt f.1 p y, f.2))[k.toNat]? = some g := h2
                    rw [List.getElem?_set_self (by omega)] at h2'
                    cases h1; cases h2'
                    exact ⟨(hold _ hpl2).trans hpc, _, _, _, _, _, _, (((gF.ext hx9 (by first | (intros; (try simp only [] at *); omega) | (intro hh; (try simp only [] at hh); omega) | (intro q h1 h2; (try simp only [] at h1 h2); have := hlt q (by omega); omega) | (intro hh; have hh : _ = _ := hh; subst hh; omega) | (intro q h1 h2; have h2 : q = _ := h2; subst h2; (try simp only [] at h1); omega) | (intro q h1 h2; (try simp only [] at h1 h2); omega) | (intro q h1 h2; have h2 : q = _ := h2; have := hlt q (by (try simp only [] at h1); omega); omega) | (intro q h1 h2; (try simp only [] at h1 h2); rcases h2 with h2 | h2 | h2 <;> first | omega | (subst h2; omega)) | (intro q h1 h2; (try simp only [] at h1 h2); rcases h2 with h2 | h2 | h2 | h2 <;> first | omega | (subst h2; omega)))).keep hk12).ext hxd (by first | (intros; (try simp only [] at *); omega) | (intro hh; (try simp only [] at hh); omega) | (intro q h1 h2; (try simp only [] at h1 h2); have := hlt q (by omega); omega) | (intro hh; have hh : _ = _ := hh; subst hh; omega) | (intro q h1 h2; have h2 : q = _ := h2; subst h2; (try simp only [] at h1); omega) | (intro q h1 h2; (try simp only [] at h1 h2); omega) | (intro q h1 h2; have h2 : q = _ := h2; have := hlt q (by (try simp only [] at h1); omega); omega) | (intro q h1 h2; (try simp only [] at h1 h2); rcases h2 with h2 | h2 | h2 <;> first | omega | (subst h2; omega)) | (intro q h1 h2; (try simp only [] at h1 h2); rcases h2 with h2 | h2 | h2 | h2 <;> first | omega | (subst h2; omega)))), (by rw [← hrs]; exact ((((gM1.ext hx9 (by intros; omega) (by first | (intros; (try simp only [] at *); omega) | (intro hh; (try simp only [] at hh); omega) | (intro q h1 h2; (try simp only [] at h1 h2); have := hlt q (by omega); omega) | (intro hh; have hh : _ = _ := hh; subst hh; omega) | (intro q h1 h2; have h2 : q = _ := h2; subst h2; (try simp only [] at h1); omega) | (intro q h1 h2; (try simp only [] at h1 h2); omega) | (intro q h1 h2; have h2 : q = _ := h2; have := hlt q (by (try simp only [] at h1); omega); omega) | (intro q h1 h2; (try simp only [] at h1 h2); rcases h2 with h2 | h2 | h2 <;> first | omega | (subst h2; omega)) | (intro q h1 h2; (try simp only [] at h1 h2); rcases h2 with h2 | h2 | h2 | h2 <;> first | omega | (subst h2; omega)))).keep hk12).ext hxd (by intros; omega) (by first | (intros; (try simp only [] at *); omega) | (intro hh; (try simp only [] at hh); omega) | (intro q h1 h2; (try simp only [] at h1 h2); have := hlt q (by omega); omega) | (intro hh; have hh : _ = _ := hh; subst hh; omega) | (intro q h1 h2; have h2 : q = _ := h2; subst h2; (try simp only [] at h1); omega) | (intro q h1 h2; (try simp only [] at h1 h2); omega) | (intro q h1 h2; have h2 : q = _ := h2; have := hlt q (by (try simp only [] at h1); omega); omega) | (intro q h1 h2; (try simp only [] at h1 h2); rcases h2 with h2 | h2 | h2 <;> first | omega | (subst h2; omega)) | (intro q h1 h2; (try simp only [] at h1 h2); rcases h2 with h2 | h2 | h2 | h2 <;> first | omega | (subst h2; omega))))).mono (fun q hq hS => hS.elim (fun hS => by rw [hold q (hlt q (by omega))]; exact hS) (fun hS => hnew q hS hq))), ((((gM2.ext hx9 (by intros; omega) (by first | (intros; (try simp only [] at *); omega) | (intro hh; (try simp only [] at hh); omega) | (intro q h1 h2; (try simp only [] at h1 h2); have := hlt q (by omega); omega) | (intro hh; have hh : _ = _ := hh; subst hh; omega) | (intro q h1 h2; have h2 : q = _ := h2; subst h2; (try simp only [] at h1); omega) | (intro q h1 h2; (try simp only [] at h1 h2); omega) | (intro q h1 h2; have h2 : q = _ := h2; have := hlt q (by (try simp only [] at h1); omega); omega) | (intro q h1 h2; (try simp only [] at h1 h2); rcases h2 with h2 | h2 | h2 <;> first | omega | (subst h2; omega)) | (intro q h1 h2; (try simp only [] at h1 h2); rcases h2 with h2 | h2 | h2 | h2 <;> first | omega | (subst h2; omega)))).keep hk12).ext hxd (by intros; omega) (by first | (intros; (try simp only [] at *); omega) | (intro hh; (try simp only [] at hh); omega) | (intro q h1 h2; (try simp only [] at h1 h2); have := hlt q (by omega); omega) | (intro hh; have hh : _ = _ := hh; subst hh; omega) | (intro q h1 h2; have h2 : q = _ := h2; subst h2; (try simp only [] at h1); omega) | (intro q h1 h2; (try simp only [] at h1 h2); omega) | (intro q h1 h2; have h2 : q = _ := h2; have := hlt q (by (try simp only [] at h1); omega); omega) | (intro q h1 h2; (try simp only [] at h1 h2); rcases h2 with h2 | h2 | h2 <;> first | omega | (subst h2; omega)) | (intro q h1 h2; (try simp only [] at h1 h2); rcases h2 with h2 | h2 | h2 | h2 <;> first | omega | (subst h2; omega)))).mono (fun q hq hS => by rw [hold q (hlt q (by (try simp only [] at hS); omega))]; exact hS))⟩
                  · have h2' : (s0.fs.set k.toNat (wrt f.1 p y, f.2))[j]? = some g := h2
                    rw [List.getElem?_set_ne (fun e => hj e.symm)] at h2'
                    exact P.fl j q g h1 h2' (fun v a1 a2 => by omega)
end Go.Proofs.Ytcdebnppbnmmgaa

namespace Go.Proofs.Ytcdebnppbnmmgaa
open Go Go.Proofs.Ytcdebnppbnmmgaa.X
set_option linter.unusedVariables false
set_option linter.unusedSimpArgs false
theorem xor8 (x y : UInt8) : IntKind.u8.wrap ((BitVec.ofInt IntKind.u8.bits (x.toNat : Int) ^^^ BitVec.ofInt IntKind.u8.bits (y.toNat : Int)).toNat : Int) = ((x ^^^ y).toNat : Int) := by
  have h : ∀ z : UInt8, BitVec.ofInt IntKind.u8.bits (z.toNat : Int) = z.toBitVec := fun z => by
    apply BitVec.eq_of_toNat_eq
    have := z.toNat_lt
    simp [BitVec.toNat_ofInt, IntKind.bits]
  rw [h, h]
  show IntKind.u8.wrap ((x ^^^ y).toNat : Int) = _
  exact X.w_u8 (by have h1 := (x ^^^ y).toNat_lt; omega)
def rotB (l : List UInt8) (p : Nat) (m : UInt8) : List UInt8 := l.set p (l.getD p 0 ^^^ m)
theorem rotB_len (l : List UInt8) (p : Nat) (m : UInt8) : (rotB l p m).length = l.length := by simp [rotB]
theorem rotB_at {l : List UInt8} {p : Nat} {m x : UInt8} (h : l[p]? = some x) : rotB l p m = l.set p (x ^^^ m) := by rw [rotB, List.getD_eq_getElem?_getD, h]; rfl
theorem rotB_out {l : List UInt8} {p : Nat} {m : UInt8} (h : l.length ≤ p) : rotB l p m = l := by rw [rotB, List.set_eq_of_length_le h]
def DS.rot (nm : ByteArray) (a : Int) (m : UInt8) (s : DS) : Int × DS := match asc nm s.dir with
  | none => (52, s)
  | some k => if a < 0 ∨ ((fat s.fs k).1.length : Int) ≤ a then (5, s) else (0, { s with fs := s.fs.set k.toNat (rotB (fat s.fs k).1 a.toNat m, rotB (fat s.fs k).2 a.toNat m) })
-- f21 "(*pedigree/disk.Disk).Rot" params [26, 9, 3, 5] results [27] -> [(ResultVar.tmp 8)] nfree 0 ntmps 62 n
set_option maxHeartbeats 4000000 in
set_option maxRecDepth 100000 in
theorem Rot_c {col : Nat → Nat} {b bf bd bx bl : Nat} {A : Option Addr} {n c : Nat} {pt : List Nat} {s0 : DS} (nm : ByteArray) (a : Int) (mk : UInt8) (w : World) (h : DkB col w b bf bd bx bl A n c pt s0) (hok : s0.Ok) (ha : -9223372036854775808 ≤ a ∧ a ≤ 9223372036854775807) : Ret Try.prog 21 #[ptrV b, .string nm, .int .i64 a, .int .u8 (mk.toNat : Int)] w fun r w' => r = .int .i64 (s0.rot nm a mk).1 ∧ ∃ col', DkR col' w' b (s0.rot nm a mk).2 ∧ Stp col w col' w' := by
  have hbl := h.B.lt
  have hfl := h.F.lt
  have hdl := h.G.lt
  have hxl := h.X.lt
  have hll := h.L.lt
  have hcb := h.cb
  have hcf := h.cf
  have hcd := h.cd
  have hcx := h.cx
  have hcl := h.cl
  obtain ⟨z1, z2, z3, z4, z5, z6, z7, z8, z9, z10⟩ := h.ne
  have hlt := h.lt
  have hok1 := hok.lf
  have hok2 := hok.few
  refine X.enter Try.func21 rfl Try.ntmps21 rfl ?_
  refine X.seq ?_
  refine X.region ?_
  refine X.opw X.wN rfl (X.assign rfl) ?_
  refine X.opsEnd ?_
  refine X.seq ?_
  refine X.seq ?_
  refine X.region ?_
  refine X.opw X.wN rfl (X.move rfl) ?_
  refine X.opE X.wN rfl (X.callE (is_c _ h.B) Try.call36 rfl rfl) ?_
  rintro _ w1 ⟨rfl, hk1⟩
  have hk1' := hk1.size
  refine X.opw X.wN rfl (X.not_ rfl) ?_
  refine X.opsEnd ?_
  refine X.condF rfl ?_
  refine X.skip ?_
  refine X.seq ?_
  refine X.region ?_
  refine X.opw X.wN rfl (X.move rfl) ?_
  refine X.opw X.wN rfl (X.move (v := .string _) rfl) ?_
  refine X.opE X.wN rfl (X.callE (named_c nm _ (h.B.keep hk1) (h.G.keep hk1) (h.F.keep hk1)) Try.call29 rfl rfl) ?_
  rintro _ w2 ⟨rfl, hk2⟩
  have hk2' := hk2.size
  refine X.opw X.wN rfl (X.move rfl) ?_
  refine X.opw X.wN rfl (X.extr rfl rfl) ?_
  refine X.opw X.wN rfl (X.extr rfl rfl) ?_
  refine X.opw X.wN rfl (X.extr rfl rfl) ?_
  refine X.opw X.wN rfl (X.assign (v := .int .i64 _) rfl) ?_
  refine X.opw X.wN rfl (X.assign rfl) ?_
  refine X.opw X.wN rfl (X.assign (v := .bool _) rfl) ?_
  refine X.opsEnd ?_
  refine X.seq ?_
  refine X.seq ?_
  refine X.region ?_
  refine X.opw X.wN rfl (X.move (v := .bool _) rfl) ?_
  refine X.opw X.wN rfl (X.not_ rfl) ?_
  refine X.opsEnd ?_
  refine X.condB rfl (fun hc => ?_) (fun hc => ?_)
  · have hno : asc nm s0.dir = none := by
      cases ha : asc nm s0.dir with
      | none => rfl
      | some k => rw [ha] at hc; simp at hc
    refine X.seq ?_
    refine X.region ?_
    refine X.opw X.wN rfl (X.assign rfl) ?_
    refine X.opsEnd ?_
    refine X.ret1 (v := (.int .i64 _)) Try.func21 Try.results21 rfl ?_
    have e : s0.rot nm a mk = (52, s0) := by simp only [DS.rot, hno]
    rw [e]
    exact ⟨rfl, col, (h.keep (hk1.trans hk2)).r, Stp.keep (hk1.trans hk2)⟩
  · obtain ⟨k, hfa⟩ : ∃ k, asc nm s0.dir = some k := by
      cases ha : asc nm s0.dir with
      | none => rw [ha] at hc; simp at hc
      | some k => exact ⟨k, rfl⟩
    obtain ⟨hka, hkb, _⟩ := hok.dir _ (asc_some hfa)
    have hka : 0 ≤ k := hka
    have hkb : k < s0.fs.length := hkb
    obtain ⟨pf, f, A1, n1, c1, A2, n2, c2, hfb, hpf, hff, hn1, hn2, hfl1, hpc, hBf, hM1, hM2⟩ := h.at_ hka hkb
    have hlf := hok.len hff
    have hpl2 := hBf.lt
    rw [hfa, Option.getD_some, hfb, Option.getD_some]
    have hfat := fat_at hff
    have hfl2 : f.1.length = n1 := hn1.symm
    have hfl3 : f.2.length = n2 := hn2.symm
    refine X.skip ?_
    refine X.seq ?_
    refine X.seq ?_
    refine X.region ?_
    refine X.opw X.wN rfl (X.move (v := .int .i64 _) rfl) ?_
    refine X.opP X.wN rfl rfl (X.lss rfl rfl) (fun h25 => ?_) (fun h25 => ?_)
    · refine X.opw X.wN rfl (X.move (v := .bool true) rfl) ?_
      refine X.opS rfl rfl rfl rfl rfl ?_
      refine X.opS rfl rfl rfl rfl rfl ?_
      refine X.opS rfl rfl rfl rfl rfl ?_
      refine X.opS rfl rfl rfl rfl rfl ?_
      refine X.opS rfl rfl rfl rfl rfl ?_
      refine X.opS rfl rfl rfl rfl rfl ?_
      refine X.opS rfl rfl rfl rfl rfl ?_
      refine X.opw X.wN rfl (X.pickT (v := .bool true) rfl rfl) ?_
      refine X.opsEnd ?_
      refine X.condT rfl ?_
      refine X.seq ?_
      refine X.region ?_
      refine X.opw X.wN rfl (X.assign rfl) ?_
      refine X.opsEnd ?_
      refine X.ret1 (v := (.int .i64 _)) Try.func21 Try.results21 rfl ?_
      have e : s0.rot nm a mk = (5, s0) := by
        simp only [DS.rot, hfa, hfat]
        rw [if_pos (by omega)]
      rw [e]
      exact ⟨rfl, col, (h.keep (hk1.trans hk2)).r, Stp.keep (hk1.trans hk2)⟩
    · obtain ⟨p, rfl⟩ := Int.eq_ofNat_of_zero_le (show 0 ≤ a by omega)
      refine X.opw X.wN rfl (X.move (v := .bool false) rfl) ?_
      refine X.opw (X.wG rfl rfl rfl) rfl (X.move (v := .int .i64 _) rfl) ?_
      refine X.opw (X.wG rfl rfl rfl) rfl (X.move rfl) ?_
      refine X.opw (X.wG rfl rfl rfl) rfl (X.nilCk rfl) ?_
      refine X.opw (X.wG rfl rfl rfl) rfl (X.fldB (j := 0) Try.underlying73 rfl rfl Try.sizeOf22 rfl) ?_
      refine X.opw (X.wG rfl rfl rfl) rfl (X.load1B Try.isAgg22 (hBf.keep (hk1.trans hk2)) rfl rfl) ?_
      refine X.opw (X.wG rfl rfl rfl) rfl (X.lenSl Try.underlying22 rfl) ?_
      refine X.opP (X.wG rfl rfl rfl) rfl rfl (X.geq rfl rfl) (fun h33 => ?_) (fun h33 => ?_)
      · refine X.opw X.wN rfl (X.pickF (v := .bool true) rfl rfl) ?_
        refine X.opsEnd ?_
        refine X.condT rfl ?_
        refine X.seq ?_
        refine X.region ?_
        refine X.opw X.wN rfl (X.assign rfl) ?_
        refine X.opsEnd ?_
        refine X.ret1 (v := (.int .i64 _)) Try.func21 Try.results21 rfl ?_
        have e : s0.rot nm (p : Int) mk = (5, s0) := by
          simp only [DS.rot, hfa, hfat]
          rw [if_pos (by omega)]
        rw [e]
        exact ⟨rfl, col, (h.keep (hk1.trans hk2)).r, Stp.keep (hk1.trans hk2)⟩
      · obtain ⟨xb, hxb⟩ := getN p hfl2 (by omega)
        refine X.opw X.wN rfl (X.pickF (v := .bool false) rfl rfl) ?_
        refine X.opsEnd ?_
        refine X.condF rfl ?_
        refine X.skip ?_
        refine X.seq ?_
        refine X.region ?_
        refine X.opw X.wN rfl (X.move rfl) ?_
        refine X.opw X.wN rfl (X.nilCk rfl) ?_
        refine X.opw X.wN rfl (X.fldB (j := 0) Try.underlying73 rfl rfl Try.sizeOf22 rfl) ?_
        refine X.opw X.wN rfl (X.load1B Try.isAgg22 (hBf.keep (hk1.trans hk2)) rfl rfl) ?_
        refine X.opw X.wN rfl (X.move (v := .int .i64 _) rfl) ?_
        refine X.opw X.wN rfl (X.idxS ((hM1.rd KB_flat).2.keep (hk1.trans hk2)) Try.underlying22 Try.sizeOf5 rfl rfl ⟨by omega, by omega⟩) ?_
        refine X.opw X.wN rfl (X.loadS Try.isAgg5 ((hM1.rd KB_flat).2.keep (hk1.trans hk2)) hxb rfl (fun _ h => by rw [h.1]; rfl)) ?_
        refine X.opw X.wN rfl (X.move (v := .int .u8 _) rfl) ?_
        refine X.opw X.wN rfl (X.xor_ rfl rfl (xor8 xb mk)) ?_
        refine X.opw X.wN rfl (X.idxS ((hM1.rd KB_flat).2.keep (hk1.trans hk2)) Try.underlying22 Try.sizeOf5 rfl rfl ⟨by omega, by omega⟩) ?_
        refine X.opE X.wN rfl (X.storeR (S := fun q => col q = 8 + 3 * k.toNat) Try.sizeOf5 ((hM1.keep hk1).keep hk2) (by omega) rfl rfl) ?_
        rintro _ w3 ⟨gM1, hx1, hz1⟩
        refine X.opsEnd ?_
        refine X.seq ?_
        refine X.seq ?_
        refine X.region ?_
        refine X.opw X.wN rfl (X.move (v := .int .i64 _) rfl) ?_
        refine X.opw X.wN rfl (X.move rfl) ?_
        refine X.opw X.wN rfl (X.nilCk rfl) ?_
        refine X.opw X.wN rfl (X.fldB (j := 1) Try.underlying73 rfl rfl Try.sizeOf22 rfl) ?_
        refine X.opw X.wN rfl (X.load1B Try.isAgg22 ((hBf.keep (hk1.trans hk2)).ext hx1 (by first | (intros; (try simp only [] at *); omega) | (intro hh; (try simp only [] at hh); omega) | (intro q h1 h2; (try simp only [] at h1 h2); have := hlt q (by omega); omega) | (intro hh; have hh : _ = _ := hh; subst hh; omega) | (intro q h1 h2; have h2 : q = _ := h2; subst h2; (try simp only [] at h1); omega) | (intro q h1 h2; (try simp only [] at h1 h2); omega) | (intro q h1 h2; have h2 : q = _ := h2; have := hlt q (by (try simp only [] at h1); omega); omega) | (intro q h1 h2; (try simp only [] at h1 h2); rcases h2 with h2 | h2 | h2 <;> first | omega | (subst h2; omega)) | (intro q h1 h2; (try simp only [] at h1 h2); rcases h2 with h2 | h2 | h2 | h2 <;> first | omega | (subst h2; omega)))) rfl rfl) ?_
        refine X.opw X.wN rfl (X.lenSl Try.underlying22 rfl) ?_
        refine X.opP X.wN rfl rfl (X.lss rfl rfl) (fun h51 => ?_) (fun h51 => ?_)
        · obtain ⟨xf, hxf⟩ := getN p hfl3 (by omega)
          refine X.opsEnd ?_
          refine X.condT rfl ?_
          refine X.region ?_
          refine X.opw X.wN rfl (X.move rfl) ?_
          refine X.opw X.wN rfl (X.nilCk rfl) ?_
          refine X.opw X.wN rfl (X.fldB (j := 1) Try.underlying73 rfl rfl Try.sizeOf22 rfl) ?_
          refine X.opw X.wN rfl (X.load1B Try.isAgg22 ((hBf.keep (hk1.trans hk2)).ext hx1 (by first | (intros; (try simp only [] at *); omega) | (intro hh; (try simp only [] at hh); omega) | (intro q h1 h2; (try simp only [] at h1 h2); have := hlt q (by omega); omega) | (intro hh; have hh : _ = _ := hh; subst hh; omega) | (intro q h1 h2; have h2 : q = _ := h2; subst h2; (try simp only [] at h1); omega) | (intro q h1 h2; (try simp only [] at h1 h2); omega) | (intro q h1 h2; have h2 : q = _ := h2; have := hlt q (by (try simp only [] at h1); omega); omega) | (intro q h1 h2; (try simp only [] at h1 h2); rcases h2 with h2 | h2 | h2 <;> first | omega | (subst h2; omega)) | (intro q h1 h2; (try simp only [] at h1 h2); rcases h2 with h2 | h2 | h2 | h2 <;> first | omega | (subst h2; omega)))) rfl rfl) ?_
          refine X.opw X.wN rfl (X.move (v := .int .i64 _) rfl) ?_
          refine X.opw X.wN rfl (X.idxS ((((hM2.keep hk1).keep hk2).ext hx1 (by intros; omega) (by first | (intros; (try simp only [] at *); omega) | (intro hh; (try simp only [] at hh); omega) | (intro q h1 h2; (try simp only [] at h1 h2); have := hlt q (by omega); omega) | (intro hh; have hh : _ = _ := hh; subst hh; omega) | (intro q h1 h2; have h2 : q = _ := h2; subst h2; (try simp only [] at h1); omega) | (intro q h1 h2; (try simp only [] at h1 h2); omega) | (intro q h1 h2; have h2 : q = _ := h2; have := hlt q (by (try simp only [] at h1); omega); omega) | (intro q h1 h2; (try simp only [] at h1 h2); rcases h2 with h2 | h2 | h2 <;> first | omega | (subst h2; omega)) | (intro q h1 h2; (try simp only [] at h1 h2); rcases h2 with h2 | h2 | h2 | h2 <;> first | omega | (subst h2; omega)))).rd KB_flat).2 Try.underlying22 Try.sizeOf5 rfl rfl ⟨by omega, by omega⟩) ?_
          refine X.opw X.wN rfl (X.loadS Try.isAgg5 ((((hM2.keep hk1).keep hk2).ext hx1 (by intros; omega) (by first | (intros; (try simp only [] at *); omega) | (intro hh; (try simp only [] at hh); omega) | (intro q h1 h2; (try simp only [] at h1 h2); have := hlt q (by omega); omega) | (intro hh; have hh : _ = _ := hh; subst hh; omega) | (intro q h1 h2; have h2 : q = _ := h2; subst h2; (try simp only [] at h1); omega) | (intro q h1 h2; (try simp only [] at h1 h2); omega) | (intro q h1 h2; have h2 : q = _ := h2; have := hlt q (by (try simp only [] at h1); omega); omega) | (intro q h1 h2; (try simp only [] at h1 h2); rcases h2 with h2 | h2 | h2 <;> first | omega | (subst h2; omega)) | (intro q h1 h2; (try simp only [] at h1 h2); rcases h2 with h2 | h2 | h2 | h2 <;> first | omega | (subst h2; omega)))).rd KB_flat).2 hxf rfl (fun _ h => by rw [h.1]; rfl)) ?_
          refine X.opw X.wN rfl (X.move (v := .int .u8 _) rfl) ?_
          refine X.opw X.wN rfl (X.xor_ rfl rfl (xor8 xf mk)) ?_
          refine X.opw X.wN rfl (X.idxS ((((hM2.keep hk1).keep hk2).ext hx1 (by intros; omega) (by first | (intros; (try simp only [] at *); omega) | (intro hh; (try simp only [] at hh); omega) | (intro q h1 h2; (try simp only [] at h1 h2); have := hlt q (by omega); omega) | (intro hh; have hh : _ = _ := hh; subst hh; omega) | (intro q h1 h2; have h2 : q = _ := h2; subst h2; (try simp only [] at h1); omega) | (intro q h1 h2; (try simp only [] at h1 h2); omega) | (intro q h1 h2; have h2 : q = _ := h2; have := hlt q (by (try simp only [] at h1); omega); omega) | (intro q h1 h2; (try simp only [] at h1 h2); rcases h2 with h2 | h2 | h2 <;> first | omega | (subst h2; omega)) | (intro q h1 h2; (try simp only [] at h1 h2); rcases h2 with h2 | h2 | h2 | h2 <;> first | omega | (subst h2; omega)))).rd KB_flat).2 Try.underlying22 Try.sizeOf5 rfl rfl ⟨by omega, by omega⟩) ?_
          refine X.opE X.wN rfl (X.storeM (S := fun q => col q = 9 + 3 * k.toNat) Try.sizeOf5 (((hM2.keep hk1).keep hk2).ext hx1 (by intros; omega) (by first | (intros; (try simp only [] at *); omega) | (intro hh; (try simp only [] at hh); omega) | (intro q h1 h2; (try simp only [] at h1 h2); have := hlt q (by omega); omega) | (intro hh; have hh : _ = _ := hh; subst hh; omega) | (intro q h1 h2; have h2 : q = _ := h2; subst h2; (try simp only [] at h1); omega) | (intro q h1 h2; (try simp only [] at h1 h2); omega) | (intro q h1 h2; have h2 : q = _ := h2; have := hlt q (by (try simp only [] at h1); omega); omega) | (intro q h1 h2; (try simp only [] at h1 h2); rcases h2 with h2 | h2 | h2 <;> first | omega | (subst h2; omega)) | (intro q h1 h2; (try simp only [] at h1 h2); rcases h2 with h2 | h2 | h2 | h2 <;> first | omega | (subst h2; omega)))) (by omega) rfl rfl) ?_
          rintro _ w4 ⟨gM2, hx2, hz2⟩
          refine X.opsEnd ?_
          refine X.seq ?_
          refine X.region ?_
          refine X.opw X.wN rfl (X.assign rfl) ?_
          refine X.opsEnd ?_
          refine X.ret1 (v := (.int .i64 _)) Try.func21 Try.results21 rfl ?_
          have hx : Ext (fun q => col q = 8 + 3 * k.toNat ∨ col q = 9 + 3 * k.toNat) w w4 := (Ext.andThen (Ext.andThen (Ext.andThen (Ext.andThen (Ext.refl (fun q => col q = 8 + 3 * k.toNat ∨ col q = 9 + 3 * k.toNat) _) hk1 (by intro q h1 h2; first | exact (h2 : False).elim | ((try simp only [] at h2); omega) | (have h2 : q = _ := h2; subst h2; omega) | (rcases h2 with h2 | h2 | h2 <;> first | omega | (subst h2; omega)))) hk2 (by intro q h1 h2; first | exact (h2 : False).elim | ((try simp only [] at h2); omega) | (have h2 : q = _ := h2; subst h2; omega) | (rcases h2 with h2 | h2 | h2 <;> first | omega | (subst h2; omega)))) hx1 (by intro q h1 h2; first | exact (h2 : False).elim | ((try simp only [] at h2); omega) | (have h2 : q = _ := h2; subst h2; omega) | (rcases h2 with h2 | h2 | h2 <;> first | omega | (subst h2; omega)))) hx2 (by intro q h1 h2; first | exact (h2 : False).elim | ((try simp only [] at h2); omega) | (have h2 : q = _ := h2; subst h2; omega) | (rcases h2 with h2 | h2 | h2 <;> first | omega | (subst h2; omega))))
          have hxs := hx.size
          have hold : ∀ q, q < w.heap.size → col q = col q := fun _ _ => rfl
          have P := h.part (col' := col) (fun v => v = 8 + 3 * k.toNat ∨ v = 9 + 3 * k.toNat) hx hold (fun q hq ht => ht)
          have hst : Stp col w col w4 := ⟨hold, hx.mono (fun q _ t => by (try simp only [] at t); omega)⟩
          have e1 := rotB_at (m := mk) hxb
          have e2 : rotB f.2 p mk = _ := rotB_at hxf
          have e : s0.rot nm (p : Int) mk = (0, { s0 with fs := s0.fs.set k.toNat (rotB f.1 p mk, rotB f.2 p mk) }) := by
            simp only [DS.rot, hfa, hfat]
            rw [if_neg (by omega)]; rfl
          rw [e]
          refine ⟨rfl, col, ⟨bf, bd, bx, bl, A, n, c, pt, ?_, P.F (by omega), P.G (by omega), P.X (by omega), P.L (by omega), P.M (by omega), P.cb, P.cf, P.cd, P.cx, P.cl, fun q hq => Nat.lt_of_lt_of_le (hlt q hq) hxs, ?_, ?_⟩, hst⟩
          · have := P.B (by omega)
            simp only [List.length_set]
            exact this
          · simp only [List.length_set]; exact P.pl
          · intro j q g h1 h2
            by_cases hj : j = k.toNat
            · subst hj
              rw [hpf] at h1
              have h2' : (s0.fs.set k.toNat (rotB f.1 p mk, rotB f.2 p mk))[k.toNat]? = some g := h2
              rw [List.getElem?_set_self (by omega)] at h2'
              cases h1; cases h2'
              exact ⟨(hold _ hpl2).trans hpc, _, _, _, _, _, _, ((((hBf.keep hk1).keep hk2).ext hx1 (by first | (intros; (try simp only [] at *); omega) | (intro hh; (try simp only [] at hh); omega) | (intro q h1 h2; (try simp only [] at h1 h2); have := hlt q (by omega); omega) | (intro hh; have hh : _ = _ := hh; subst hh; omega) | (intro q h1 h2; have h2 : q = _ := h2; subst h2; (try simp only [] at h1); omega) | (intro q h1 h2; (try simp only [] at h1 h2); omega) | (intro q h1 h2; have h2 : q = _ := h2; have := hlt q (by (try simp only [] at h1); omega); omega) | (intro q h1 h2; (try simp only [] at h1 h2); rcases h2 with h2 | h2 | h2 <;> first | omega | (subst h2; omega)) | (intro q h1 h2; (try simp only [] at h1 h2); rcases h2 with h2 | h2 | h2 | h2 <;> first | omega | (subst h2; omega)))).ext hx2 (by first | (intros; (try simp only [] at *); omega) | (intro hh; (try simp only [] at hh); omega) | (intro q h1 h2; (try simp only [] at h1 h2); have := hlt q (by omega); omega) | (intro hh; have hh : _ = _ := hh; subst hh; omega) | (intro q h1 h2; have h2 : q = _ := h2; subst h2; (try simp only [] at h1); omega) | (intro q h1 h2; (try simp only [] at h1 h2); omega) | (intro q h1 h2; have h2 : q = _ := h2; have := hlt q (by (try simp only [] at h1); omega); omega) | (intro q h1 h2; (try simp only [] at h1 h2); rcases h2 with h2 | h2 | h2 <;> first | omega | (subst h2; omega)) | (intro q h1 h2; (try simp only [] at h1 h2); rcases h2 with h2 | h2 | h2 | h2 <;> first | omega | (subst h2; omega)))), (by rw [e1]; exact (gM1.ext hx2 (by intros; omega) (by first | (intros; (try simp only [] at *); omega) | (intro hh; (try simp only [] at hh); omega) | (intro q h1 h2; (try simp only [] at h1 h2); have := hlt q (by omega); omega) | (intro hh; have hh : _ = _ := hh; subst hh; omega) | (intro q h1 h2; have h2 : q = _ := h2; subst h2; (try simp only [] at h1); omega) | (intro q h1 h2; (try simp only [] at h1 h2); omega) | (intro q h1 h2; have h2 : q = _ := h2; have := hlt q (by (try simp only [] at h1); omega); omega) | (intro q h1 h2; (try simp only [] at h1 h2); rcases h2 with h2 | h2 | h2 <;> first | omega | (subst h2; omega)) | (intro q h1 h2; (try simp only [] at h1 h2); rcases h2 with h2 | h2 | h2 | h2 <;> first | omega | (subst h2; omega))))), (by rw [e2]; exact gM2)⟩
            · have h2' : (s0.fs.set k.toNat (rotB f.1 p mk, rotB f.2 p mk))[j]? = some g := h2
              rw [List.getElem?_set_ne (fun e => hj e.symm)] at h2'
              exact P.fl j q g h1 h2' (fun v a1 a2 => by omega)
        · refine X.opsEnd ?_
          refine X.condF rfl ?_
          refine X.skip ?_
          refine X.seq ?_
          refine X.region ?_
          refine X.opw X.wN rfl (X.assign rfl) ?_
          refine X.opsEnd ?_
          refine X.ret1 (v := (.int .i64 _)) Try.func21 Try.results21 rfl ?_
          have hx : Ext (fun q => col q = 8 + 3 * k.toNat ∨ col q = 9 + 3 * k.toNat) w w3 := (Ext.andThen (Ext.andThen (Ext.andThen (Ext.refl (fun q => col q = 8 + 3 * k.toNat ∨ col q = 9 + 3 * k.toNat) _) hk1 (by intro q h1 h2; first | exact (h2 : False).elim | ((try simp only [] at h2); omega) | (have h2 : q = _ := h2; subst h2; omega) | (rcases h2 with h2 | h2 | h2 <;> first | omega | (subst h2; omega)))) hk2 (by intro q h1 h2; first | exact (h2 : False).elim | ((try simp only [] at h2); omega) | (have h2 : q = _ := h2; subst h2; omega) | (rcases h2 with h2 | h2 | h2 <;> first | omega | (subst h2; omega)))) hx1 (by intro q h1 h2; first | exact (h2 : False).elim | ((try simp only [] at h2); omega) | (have h2 : q = _ := h2; subst h2; omega) | (rcases h2 with h2 | h2 | h2 <;> first | omega | (subst h2; omega))))
          have hxs := hx.size
          have hold : ∀ q, q < w.heap.size → col q = col q := fun _ _ => rfl
          have P := h.part (col' := col) (fun v => v = 8 + 3 * k.toNat ∨ v = 9 + 3 * k.toNat) hx hold (fun q hq ht => ht)
          have hst : Stp col w col w3 := ⟨hold, hx.mono (fun q _ t => by (try simp only [] at t); omega)⟩
          have e1 := rotB_at (m := mk) hxb
          have e2 : rotB f.2 p mk = _ := rotB_out (by omega)
          have e : s0.rot nm (p : Int) mk = (0, { s0 with fs := s0.fs.set k.toNat (rotB f.1 p mk, rotB f.2 p mk) }) := by
            simp only [DS.rot, hfa, hfat]
            rw [if_neg (by omega)]; rfl
          rw [e]
          refine ⟨rfl, col, ⟨bf, bd, bx, bl, A, n, c, pt, ?_, P.F (by omega), P.G (by omega), P.X (by omega), P.L (by omega), P.M (by omega), P.cb, P.cf, P.cd, P.cx, P.cl, fun q hq => Nat.lt_of_lt_of_le (hlt q hq) hxs, ?_, ?_⟩, hst⟩
          · have := P.B (by omega)
            simp only [List.length_set]
            exact this
          · simp only [List.length_set]; exact P.pl
          · intro j q g h1 h2
            by_cases hj : j = k.toNat
            · subst hj
              rw [hpf] at h1
              have h2' : (s0.fs.set k.toNat (rotB f.1 p mk, rotB f.2 p mk))[k.toNat]? = some g := h2
              rw [List.getElem?_set_self (by omega)] at h2'
              cases h1; cases h2'
              exact ⟨(hold _ hpl2).trans hpc, _, _, _, _, _, _, (((hBf.keep hk1).keep hk2).ext hx1 (by first | (intros; (try simp only [] at *); omega) | (intro hh; (try simp only [] at hh); omega) | (intro q h1 h2; (try simp only [] at h1 h2); have := hlt q (by omega); omega) | (intro hh; have hh : _ = _ := hh; subst hh; omega) | (intro q h1 h2; have h2 : q = _ := h2; subst h2; (try simp only [] at h1); omega) | (intro q h1 h2; (try simp only [] at h1 h2); omega) | (intro q h1 h2; have h2 : q = _ := h2; have := hlt q (by (try simp only [] at h1); omega); omega) | (intro q h1 h2; (try simp only [] at h1 h2); rcases h2 with h2 | h2 | h2 <;> first | omega | (subst h2; omega)) | (intro q h1 h2; (try simp only [] at h1 h2); rcases h2 with h2 | h2 | h2 | h2 <;> first | omega | (subst h2; omega)))), (by rw [e1]; exact gM1), (by rw [e2]; exact (((hM2.keep hk1).keep hk2).ext hx1 (by intros; omega) (by first | (intros; (try simp only [] at *); omega) | (intro hh; (try simp only [] at hh); omega) | (intro q h1 h2; (try simp only [] at h1 h2); have := hlt q (by omega); omega) | (intro hh; have hh : _ = _ := hh; subst hh; omega) | (intro q h1 h2; have h2 : q = _ := h2; subst h2; (try simp only [] at h1); omega) | (intro q h1 h2; (try simp only [] at h1 h2); omega) | (intro q h1 h2; have h2 : q = _ := h2; have := hlt q (by (try simp only [] at h1); omega); omega) | (intro q h1 h2; (try simp only [] at h1 h2); rcases h2 with h2 | h2 | h2 <;> first | omega | (subst h2; omega)) | (intro q h1 h2; (try simp only [] at h1 h2); rcases h2 with h2 | h2 | h2 | h2 <;> first | omega | (subst h2; omega)))))⟩
            · have h2' : (s0.fs.set k.toNat (rotB f.1 p mk, rotB f.2 p mk))[j]? = some g := h2
              rw [List.getElem?_set_ne (fun e => hj e.symm)] at h2'
              exact P.fl j q g h1 h2' (fun v a1 a2 => by omega)
section
variable {col : Nat → Nat} {w : World} {b : Nat} {s : DS}
theorem rotR_c (h : DkR col w b s) (hok : s.Ok) (nm : ByteArray) (a : Int) (mk : UInt8) (ha : -9223372036854775808 ≤ a ∧ a ≤ 9223372036854775807) : Ret Try.prog 21 #[ptrV b, .string nm, .int .i64 a, .int .u8 (mk.toNat : Int)] w fun r w' => r = .int .i64 (s.rot nm a mk).1 ∧ ∃ col', DkR col' w' b (s.rot nm a mk).2 ∧ Stp col w col' w' := let ⟨_, _, _, _, _, _, _, _, h⟩ := h; Rot_c nm a mk w h hok ha
theorem writeR_c {lo hi m2 cy : Nat} {Ay : Option Addr} {y : List UInt8} (h : DkR col w b s) (hok : s.Ok) (nm : ByteArray) (a : Int) (ha : -9223372036854775808 ≤ a ∧ a ≤ 9223372036854775807) (hy : Sl KB lo hi w Ay m2 y) (hy0 : ∀ q, lo ≤ q → q < hi → col q = 0 ∧ q < w.heap.size) (hym : m2 ≤ 1000000000) : Ret Try.prog 8 #[ptrV b, .string nm, .int .i64 a, .slice Ay m2 cy] w fun r w' => r = .int .i64 (s.write nm a y).1 ∧ ∃ col', DkR col' w' b (s.write nm a y).2 ∧ Stp col w col' w' := let ⟨_, _, _, _, _, _, _, _, h⟩ := h; Write_c nm a w h hok ha hy hy0 hym
theorem usedR_c (h : DkR col w b s) (hok : s.Ok) : Ret Try.prog 30 #[ptrV b] w fun r w' => r = .int .i64 (s.used : Int) ∧ Keep w w' := let ⟨_, _, _, _, _, _, _, _, h⟩ := h; used_c w h hok
end
end Go.Proofs.Ytcdebnppbnmmgaa

namespace Go.Proofs.Ytcdebnppbnmmgaa
open Go Go.Proofs.Ytcdebnppbnmmgaa.X
set_option linter.unusedVariables false
set_option linter.unusedSimpArgs false
abbrev KLo : Kd (Int × List Bool × List Bool) := Kd.pair KI (Kd.pair (Kd.slice KBo) (Kd.slice KBo))
abbrev KOp : Kd (Int × ByteArray × ByteArray × Int × List UInt8 × Int × List Bool × List Bool) := Kd.pair KI (Kd.pair KS (Kd.pair KS (Kd.pair KI (Kd.pair (Kd.slice KB) KLo))))
theorem op_open {w : World} {cs : Array Value} {y : Int × ByteArray × ByteArray × Int × List UInt8 × Int × List Bool × List Bool} (g : KOp.R 0 w.heap.size w y cs.toList) : ∃ A n c A2 n2 c2 A3 n3 c3, cs = #[.int .i64 y.1, .string y.2.1, .string y.2.2.1, .int .i64 y.2.2.2.1, .slice A n c, .int .i64 y.2.2.2.2.2.1, .slice A2 n2 c2, .slice A3 n3 c3] ∧ n ≤ c ∧ Sl KB 0 w.heap.size w A n y.2.2.2.2.1 := by
  obtain ⟨a1, r1, e, ⟨e1, _⟩, a2, r2, rfl, ⟨e2, _⟩, a3, r3, rfl, ⟨e3, _⟩, a4, r4, rfl, ⟨e4, _⟩, a5, r5, rfl, ⟨A, n, c, e5, hc, hs⟩, a6, r6, rfl, ⟨e6, _⟩, a7, a8, rfl, ⟨A2, n2, c2, e7, _, _⟩, A3, n3, c3, e8, _, _⟩ := g
  subst e1 e2 e3 e4 e5 e6 e7 e8
  exact ⟨A, n, c, A2, n2, c2, A3, n3, c3, Array.toList_inj.1 e, hc, hs⟩
def KPt : Kd (Option Addr) := Kd.plain 1 (fun p => [.pointer p]) (fun _ => True) (fun _ => rfl) (fun _ u hu => by simp at hu; subst hu; rfl)
theorem KPt_flat : Flat KPt := fun h => h
theorem repsP2 {w : World} (p q : Option Addr) : RepsV KPt w [p, q] [.pointer p, .pointer q] := ⟨⟨_, rfl, rfl, trivial⟩, ⟨_, rfl, rfl, trivial⟩, trivial⟩
theorem getL {α : Type} {l : List α} {n : Nat} (i : Nat) (h : l.length = n) (hi : i < n) : ∃ x, l[i]? = some x := ⟨l[i]'(by omega), List.getElem?_eq_getElem (by omega)⟩
theorem ok4 : (-9223372036854775808 : Int) ≤ 4 ∧ (4 : Int) ≤ 9223372036854775807 := by constructor <;> decide
theorem reps11 {w : World} : RepsV KI w [4, 4, 4, 4, 4, 4, 4, 4, 4, 4, 4] [.int .i64 4, .int .i64 4, .int .i64 4, .int .i64 4, .int .i64 4, .int .i64 4, .int .i64 4, .int .i64 4, .int .i64 4, .int .i64 4, .int .i64 4] :=
  ⟨⟨_, rfl, rfl, ok4⟩, ⟨_, rfl, rfl, ok4⟩, ⟨_, rfl, rfl, ok4⟩, ⟨_, rfl, rfl, ok4⟩, ⟨_, rfl, rfl, ok4⟩, ⟨_, rfl, rfl, ok4⟩, ⟨_, rfl, rfl, ok4⟩, ⟨_, rfl, rfl, ok4⟩, ⟨_, rfl, rfl, ok4⟩, ⟨_, rfl, rfl, ok4⟩, ⟨_, rfl, rfl, ok4⟩, trivial⟩
-- f5 "pedigree/pedigreelaw05.DiskNobody" params [48] results [4] -> [(ResultVar.tmp 2)] nfree 0 ntmps 132 nam
set_option maxHeartbeats 4000000 in
set_option maxRecDepth 100000 in
theorem DiskNobody_of (hal : ∀ w : World, Ret Try.prog 11 #[] w fun r w' => r = .bool true ∧ Keep w w') (w : World) (cs : Array Value) (y : Int × ByteArray × ByteArray × Int × List UInt8 × Int × List Bool × List Bool) (g : KOp.R 0 w.heap.size w y cs.toList) : Ret Try.prog 5 #[.agg cs] w fun r w' => r = .bool true ∧ Keep w w' := by
  obtain ⟨A, n, c, A2, n2, c2, A3, n3, c3, rfl, hnc, hs⟩ := op_open g
  refine X.enter Try.func5 rfl Try.ntmps5 rfl ?_
  refine X.seq ?_
  refine X.region ?_
  refine X.opE X.wN rfl (X.boxE rfl rfl) ?_
  rintro _ w1 ⟨rfl, hB1, hk1, hz1⟩
  refine X.opw X.wN rfl (X.assign rfl) ?_
  refine X.opsEnd ?_
  refine X.seq ?_
  refine X.region ?_
  refine X.opw X.wN rfl (X.assign rfl) ?_
  refine X.opsEnd ?_
  refine X.seq ?_
  refine X.seq ?_
  refine X.region ?_
  refine X.opw X.wN rfl (X.move rfl) ?_
  refine X.opw X.wN rfl (X.buildB (vs := []) (cs := #[.int .i64 0, .map none, .int .i64 0, .map none, .map none, .slice none 0 0, .map none, .bool false, .int .i64 0]) rfl (by kernel_rfl)) ?_
  refine X.opE X.wN rfl (X.boxE rfl rfl) ?_
  rintro _ w2 ⟨rfl, hB2, hk2, hz2⟩
  refine X.opE X.wN rfl (X.litKF KPt_flat (K := KPt) (xs := [Operand.tmp 19, Operand.tmp 21]) (vs := [.pointer none, .pointer (some ⟨w1.heap.size, 0, none⟩)]) (ys := [none, some ⟨w1.heap.size, 0, none⟩]) Try.underlying61 Try.sizeOf26 Try.zeroValue26 rfl rfl rfl rfl rfl (repsP2 _ _)) ?_
  rintro _ w3 ⟨rfl, hs3, hB3, hk3, hz3⟩
  refine X.opw X.wN rfl (X.lenSl Try.underlying61 rfl) ?_
  refine X.opw X.wN rfl (X.move rfl) ?_
  refine X.opsEnd ?_
  refine X.block ?_
  -- LOOP live: 1=o, 22, 23, 24*
  refine X.loopL (σ := Nat) (fun s => [(1, .pointer (some ⟨w.heap.size, 0, none⟩)), (22, .slice (some ⟨w2.heap.size, 0, none⟩) 2 2), (23, .int .i64 2), (24, .int .i64 (s : Int))]) (fun s w' => s ≤ 2 ∧ Blk w' (w.heap.size) [.int .i64 y.1, .string y.2.1, .string y.2.2.1, .int .i64 y.2.2.2.1, .slice A n c, .int .i64 y.2.2.2.2.2.1, .slice A2 n2 c2, .slice A3 n3 c3] 48 ∧ Blk w' (w1.heap.size) (dkL 0 none 0 none none none 0 0 none false 0) 60 ∧ Sl KPt 0 w'.heap.size w' (some ⟨w2.heap.size, 0, none⟩) 2 [none, some ⟨w1.heap.size, 0, none⟩] ∧ Keep w w') (fun s => 2 - s) 0 ⟨rfl, rfl, rfl, rfl, trivial⟩ ⟨by omega, (hB1.keep (hk2.trans hk3)), (hB2.keep hk3), (hs3).wide (by omega) (by omega), ((hk1.trans hk2).trans hk3)⟩ ?_
  rintro i b0 wl ⟨hi, hBo, hBz, hsl, hk⟩ hback
  have hk' := hk.size
  refine X.seq ?_
  refine X.region ?_
  refine X.opP X.wN rfl rfl (X.lss rfl rfl) (fun h25 => ?_) (fun h25 => ?_)
  · obtain ⟨x, hx⟩ := getL (l := [none, some _]) i (n := 2) rfl (by omega)
    have hN : Nob wl x := by
      have h01 : i = 0 ∨ i = 1 := by omega
      rcases h01 with rfl | rfl
      · simp at hx; exact .inl hx.symm
      · simp at hx; exact .inr ⟨_, hx.symm, hBz⟩
    refine X.opsEnd ?_
    refine X.seq ?_
    refine X.condT rfl ?_
    refine X.skip ?_
    refine X.seq ?_
    refine X.block ?_
    refine X.seq ?_
    refine X.region ?_
    refine X.opw X.wN rfl (X.idxS hsl Try.underlying61 Try.sizeOf26 rfl rfl ⟨by omega, by omega⟩) ?_
    refine X.opw X.wN rfl (X.loadS Try.isAgg26 hsl hx rfl (fun _ h => by rw [h.1]; rfl)) ?_
    refine X.opw X.wN rfl (X.assign rfl) ?_
    refine X.opsEnd ?_
    refine X.seq ?_
    refine X.region ?_
    refine X.opw X.wN rfl (X.move rfl) ?_
    refine X.opw X.wN rfl (X.fldB (j := 1) Try.underlying48 rfl rfl Try.sizeOf9 rfl) ?_
    refine X.opw X.wN rfl (X.load1B Try.isAgg9 hBo rfl rfl) ?_
    refine X.opE X.wN rfl (X.callE (Read_n y.2.1 0 0 x _ hN) Try.call13 rfl rfl) ?_
    rintro _ w4 ⟨rfl, hk4⟩
    have hk4' := hk4.size
    refine X.opw X.wN rfl (X.move rfl) ?_
    refine X.opw X.wN rfl (X.extr rfl rfl) ?_
    refine X.opw X.wN rfl (X.extr rfl rfl) ?_
    refine X.opw X.wN rfl (X.assign rfl) ?_
    refine X.opw X.wN rfl (X.assign (v := .int .i64 _) rfl) ?_
    refine X.opsEnd ?_
    refine X.seq ?_
    refine X.region ?_
    refine X.opw X.wN rfl (X.move rfl) ?_
    refine X.opw X.wN rfl (X.fldB (j := 1) Try.underlying48 rfl rfl Try.sizeOf9 rfl) ?_
    refine X.opw X.wN rfl (X.load1B Try.isAgg9 (hBo.keep hk4) rfl rfl) ?_
    refine X.opE X.wN rfl (X.callE (Size_n y.2.1 x _ (hN.keep hk4)) Try.call12 rfl rfl) ?_
    rintro _ w5 ⟨rfl, hk5⟩
    have hk5' := hk5.size
    refine X.opw X.wN rfl (X.move rfl) ?_
    refine X.opw X.wN rfl (X.extr rfl rfl) ?_
    refine X.opw X.wN rfl (X.extr rfl rfl) ?_
    refine X.opw X.wN rfl (X.assign (v := .int .i64 _) rfl) ?_
    refine X.opw X.wN rfl (X.assign (v := .int .i64 _) rfl) ?_
    refine X.opsEnd ?_
    refine X.seq ?_
    refine X.region ?_
    refine X.opw X.wN rfl (X.move rfl) ?_
    refine X.opw X.wN rfl (X.buildB (vs := []) (cs := #[.int .i64 0, .slice none 0 0, .slice none 0 0]) rfl (by kernel_rfl)) ?_
    refine X.opE X.wN rfl (X.callE (Lose_n _ x _ (hN.keep (hk4.trans hk5))) Try.call14 rfl rfl) ?_
    rintro _ w6 ⟨rfl, hk6⟩
    have hk6' := hk6.size
    refine X.opw X.wN rfl (X.move rfl) ?_
    refine X.opw X.wN rfl (X.extr rfl rfl) ?_
    refine X.opw X.wN rfl (X.extr rfl rfl) ?_
    refine X.opw X.wN rfl (X.assign rfl) ?_
    refine X.opw X.wN rfl (X.assign (v := .int .i64 _) rfl) ?_
    refine X.opsEnd ?_
    refine X.seq ?_
    refine X.seq ?_
    refine X.regionD (fun _ => False) 38 (by kernel_rfl) (by kernel_rfl) (fun w7 hk7 hz7 => ?_)
    refine X.dTake 0 rfl (by kernel_rfl) (by kernel_rfl) (by kernel_rfl) (X.dwN rfl) (fun w' hk' => X.move (v := .int .i64 _) rfl) ?_
    refine X.dTake 1 rfl (by kernel_rfl) (by kernel_rfl) (by kernel_rfl) (X.dwN rfl) (fun w' hk' => X.move (v := .int .i64 _) rfl) ?_
    refine X.dTake 2 rfl (by kernel_rfl) (by kernel_rfl) (by kernel_rfl) (X.dwN rfl) (fun w' hk' => X.move (v := .int .i64 _) rfl) ?_
    refine X.dTake 3 rfl (by kernel_rfl) (by kernel_rfl) (by kernel_rfl) (X.dwN rfl) (fun w' hk' => X.move rfl) ?_
    refine X.dTake 4 rfl (by kernel_rfl) (by kernel_rfl) (by kernel_rfl) (X.dwN rfl) (fun w' hk' => X.fldB (j := 1) Try.underlying48 rfl rfl Try.sizeOf9 rfl) ?_
    refine X.dTake 5 rfl (by kernel_rfl) (by kernel_rfl) (by kernel_rfl) (X.dwN rfl) (fun w' hk' => X.load1B Try.isAgg9 (hBo.keep ((((hk4.trans hk5).trans hk6).trans hk7).trans hk')) rfl rfl) ?_
    refine X.dTake 7 rfl (by kernel_rfl) (by kernel_rfl) (by kernel_rfl) (X.dwN rfl) (fun w' hk' => X.move rfl) ?_
    refine X.dTake 8 rfl (by kernel_rfl) (by kernel_rfl) (by kernel_rfl) (X.dwN rfl) (fun w' hk' => X.fldB (j := 1) Try.underlying48 rfl rfl Try.sizeOf9 rfl) ?_
    refine X.dTake 9 rfl (by kernel_rfl) (by kernel_rfl) (by kernel_rfl) (X.dwN rfl) (fun w' hk' => X.load1B Try.isAgg9 (hBo.keep ((((hk4.trans hk5).trans hk6).trans hk7).trans hk')) rfl rfl) ?_
    refine X.dTake 10 rfl (by kernel_rfl) (by kernel_rfl) (by kernel_rfl) (X.dwN rfl) (fun w' hk' => X.fldB (j := 4) Try.underlying48 rfl rfl Try.sizeOf22 rfl) ?_
    refine X.dTake 11 rfl (by kernel_rfl) (by kernel_rfl) (by kernel_rfl) (X.dwN rfl) (fun w' hk' => X.load1B Try.isAgg22 (hBo.keep ((((hk4.trans hk5).trans hk6).trans hk7).trans hk')) rfl rfl) ?_
    refine X.dTake 13 rfl (by kernel_rfl) (by kernel_rfl) (by kernel_rfl) (X.dwN rfl) (fun w' hk' => X.move rfl) ?_
    refine X.dTake 14 rfl (by kernel_rfl) (by kernel_rfl) (by kernel_rfl) (X.dwN rfl) (fun w' hk' => X.fldB (j := 1) Try.underlying48 rfl rfl Try.sizeOf9 rfl) ?_
    refine X.dTake 15 rfl (by kernel_rfl) (by kernel_rfl) (by kernel_rfl) (X.dwN rfl) (fun w' hk' => X.load1B Try.isAgg9 (hBo.keep ((((hk4.trans hk5).trans hk6).trans hk7).trans hk')) rfl rfl) ?_
    refine X.dTake 17 rfl (by kernel_rfl) (by kernel_rfl) (by kernel_rfl) (X.dwN rfl) (fun w' hk' => X.move rfl) ?_
    refine X.dTake 18 rfl (by kernel_rfl) (by kernel_rfl) (by kernel_rfl) (X.dwN rfl) (fun w' hk' => X.fldB (j := 1) Try.underlying48 rfl rfl Try.sizeOf9 rfl) ?_
    refine X.dTake 19 rfl (by kernel_rfl) (by kernel_rfl) (by kernel_rfl) (X.dwN rfl) (fun w' hk' => X.load1B Try.isAgg9 (hBo.keep ((((hk4.trans hk5).trans hk6).trans hk7).trans hk')) rfl rfl) ?_
    refine X.dTake 20 rfl (by kernel_rfl) (by kernel_rfl) (by kernel_rfl) (X.dwN rfl) (fun w' hk' => X.fldB (j := 2) Try.underlying48 rfl rfl Try.sizeOf9 rfl) ?_
    refine X.dTake 21 rfl (by kernel_rfl) (by kernel_rfl) (by kernel_rfl) (X.dwN rfl) (fun w' hk' => X.load1B Try.isAgg9 (hBo.keep ((((hk4.trans hk5).trans hk6).trans hk7).trans hk')) rfl rfl) ?_
    refine X.dTake 23 rfl (by kernel_rfl) (by kernel_rfl) (by kernel_rfl) (X.dwN rfl) (fun w' hk' => X.move rfl) ?_
    refine X.dTake 24 rfl (by kernel_rfl) (by kernel_rfl) (by kernel_rfl) (X.dwN rfl) (fun w' hk' => X.fldB (j := 1) Try.underlying48 rfl rfl Try.sizeOf9 rfl) ?_
    refine X.dTake 25 rfl (by kernel_rfl) (by kernel_rfl) (by kernel_rfl) (X.dwN rfl) (fun w' hk' => X.load1B Try.isAgg9 (hBo.keep ((((hk4.trans hk5).trans hk6).trans hk7).trans hk')) rfl rfl) ?_
    refine X.dTake 27 rfl (by kernel_rfl) (by kernel_rfl) (by kernel_rfl) (X.dwN rfl) (fun w' hk' => X.move rfl) ?_
    refine X.dTake 29 rfl (by kernel_rfl) (by kernel_rfl) (by kernel_rfl) (X.dwN rfl) (fun w' hk' => X.move rfl) ?_
    refine X.dTake 31 rfl (by kernel_rfl) (by kernel_rfl) (by kernel_rfl) (X.dwN rfl) (fun w' hk' => X.move rfl) ?_
    refine X.dTake 32 rfl (by kernel_rfl) (by kernel_rfl) (by kernel_rfl) (X.dwN rfl) (fun w' hk' => X.fldB (j := 1) Try.underlying48 rfl rfl Try.sizeOf9 rfl) ?_
    refine X.dTake 33 rfl (by kernel_rfl) (by kernel_rfl) (by kernel_rfl) (X.dwN rfl) (fun w' hk' => X.load1B Try.isAgg9 (hBo.keep ((((hk4.trans hk5).trans hk6).trans hk7).trans hk')) rfl rfl) ?_
    refine X.dTake 37 rfl (by kernel_rfl) (by kernel_rfl) (by kernel_rfl) (X.dwN rfl) (fun w' hk' => X.move rfl) ?_
    refine X.dE (i := 6) (by kernel_rfl) rfl (X.dwN rfl) (X.callE (Create_n y.2.1 x _ (hN.keep (((hk4.trans hk5).trans hk6).trans hk7))) Try.call7 rfl rfl) (by rintro _ w8 ⟨rfl, hk8⟩ _; exact hk8.mono (fun _ _ h => h.elim)) ?_
    rintro _ w8 ⟨rfl, hk8⟩
    have hk8' := hk8.size
    refine X.dE (i := 12) (by kernel_rfl) rfl (X.dwN rfl) (X.callE (Write_n y.2.1 0 _ x _ (hN.keep ((((hk4.trans hk5).trans hk6).trans hk7).trans hk8))) Try.call8 rfl rfl) (by rintro _ w9 ⟨rfl, hk9⟩ _; exact hk9.mono (fun _ _ h => h.elim)) ?_
    rintro _ w9 ⟨rfl, hk9⟩
    have hk9' := hk9.size
    refine X.dE (i := 16) (by kernel_rfl) rfl (X.dwN rfl) (X.callE (Sync_n y.2.1 x _ (hN.keep (((((hk4.trans hk5).trans hk6).trans hk7).trans hk8).trans hk9))) Try.call9 rfl rfl) (by rintro _ w10 ⟨rfl, hk10⟩ _; exact hk10.mono (fun _ _ h => h.elim)) ?_
    rintro _ w10 ⟨rfl, hk10⟩
    have hk10' := hk10.size
    refine X.dE (i := 22) (by kernel_rfl) rfl (X.dwN rfl) (X.callE (Rename_n y.2.1 y.2.2.1 x _ (hN.keep ((((((hk4.trans hk5).trans hk6).trans hk7).trans hk8).trans hk9).trans hk10))) Try.call17 rfl rfl) (by rintro _ w11 ⟨rfl, hk11⟩ _; exact hk11.mono (fun _ _ h => h.elim)) ?_
    rintro _ w11 ⟨rfl, hk11⟩
    have hk11' := hk11.size
    refine X.dE (i := 26) (by kernel_rfl) rfl (X.dwN rfl) (X.callE (Delete_n y.2.1 x _ (hN.keep (((((((hk4.trans hk5).trans hk6).trans hk7).trans hk8).trans hk9).trans hk10).trans hk11))) Try.call18 rfl rfl) (by rintro _ w12 ⟨rfl, hk12⟩ _; exact hk12.mono (fun _ _ h => h.elim)) ?_
    rintro _ w12 ⟨rfl, hk12⟩
    have hk12' := hk12.size
    refine X.dE (i := 28) (by kernel_rfl) rfl (X.dwN rfl) (X.callE (SyncDir_n x _ (hN.keep ((((((((hk4.trans hk5).trans hk6).trans hk7).trans hk8).trans hk9).trans hk10).trans hk11).trans hk12))) Try.call10 rfl rfl) (by rintro _ w13 ⟨rfl, hk13⟩ _; exact hk13.mono (fun _ _ h => h.elim)) ?_
    rintro _ w13 ⟨rfl, hk13⟩
    have hk13' := hk13.size
    refine X.dE (i := 30) (by kernel_rfl) rfl (X.dwN rfl) (X.callE (Fuse_n 1 x _ (hN.keep (((((((((hk4.trans hk5).trans hk6).trans hk7).trans hk8).trans hk9).trans hk10).trans hk11).trans hk12).trans hk13))) Try.call19 rfl rfl) (by rintro _ w14 ⟨rfl, hk14⟩ _; exact hk14.mono (fun _ _ h => h.elim)) ?_
    rintro _ w14 ⟨rfl, hk14⟩
    have hk14' := hk14.size
    refine X.dE (i := 34) (by kernel_rfl) rfl (X.dwN rfl) (X.callE (Rot_n y.2.1 0 1 x _ (hN.keep ((((((((((hk4.trans hk5).trans hk6).trans hk7).trans hk8).trans hk9).trans hk10).trans hk11).trans hk12).trans hk13).trans hk14))) Try.call21 rfl rfl) (by rintro _ w15 ⟨rfl, hk15⟩ _; exact hk15.mono (fun _ _ h => h.elim)) ?_
    rintro _ w15 ⟨rfl, hk15⟩
    have hk15' := hk15.size
    refine X.dE (i := 35) (by kernel_rfl) rfl (X.dwN rfl) (X.litKF KI_flat (K := KI) (xs := [Operand.tmp 48, Operand.tmp 49, Operand.tmp 50, Operand.tmp 54, Operand.tmp 60, Operand.tmp 64, Operand.tmp 70, Operand.tmp 74, Operand.tmp 76, Operand.tmp 78, Operand.tmp 82]) (vs := [.int .i64 4, .int .i64 4, .int .i64 4, .int .i64 4, .int .i64 4, .int .i64 4, .int .i64 4, .int .i64 4, .int .i64 4, .int .i64 4, .int .i64 4]) (ys := [4, 4, 4, 4, 4, 4, 4, 4, 4, 4, 4]) Try.underlying63 Try.sizeOf27 Try.zeroValue27 rfl rfl rfl rfl rfl reps11) (by rintro _ w16 ⟨rfl, hs16, hB16, hk16, hz16⟩ _; exact hk16.mono (fun _ _ h => h.elim)) ?_
    rintro _ w16 ⟨rfl, hs16, hB16, hk16, hz16⟩
    refine X.dTake 36 rfl (by kernel_rfl) (by kernel_rfl) (by kernel_rfl) (X.dwN rfl) (fun w' hk' => X.lenSl Try.underlying63 rfl) ?_
    refine X.dEnd (by kernel_rfl) ?_
    refine X.block ?_
    -- LOOP live: 1=o, 5=d, 6=b, 8=n, 10=x, 22, 23, 24, 83, 84, 85*
    refine X.loopL (σ := Nat) (fun s => [(1, .pointer (some ⟨w.heap.size, 0, none⟩)), (5, .pointer x), (6, .slice none 0 0), (8, .int .i64 0), (10, .pointer none), (22, .slice (some ⟨w2.heap.size, 0, none⟩) 2 2), (23, .int .i64 2), (24, .int .i64 (i : Int)), (83, .slice (some ⟨w15.heap.size, 0, none⟩) 11 11), (84, .int .i64 11), (85, .int .i64 (s : Int))]) (fun s w' => s ≤ 11 ∧ Keep w16 w') (fun s => 11 - s) 0 ⟨rfl, rfl, rfl, rfl, rfl, rfl, rfl, rfl, rfl, rfl, rfl, trivial⟩ ⟨Nat.zero_le _, Keep.refl _⟩ ?_
    rintro j b1 wm ⟨hj, hkm⟩ hback2
    have hkm' := hkm.size
    refine X.seq ?_
    refine X.region ?_
    refine X.opP X.wN rfl rfl (X.lss rfl rfl) (fun h86 => ?_) (fun h86 => ?_)
    · obtain ⟨z, hz⟩ := getL (l := [4, 4, 4, 4, 4, 4, 4, 4, 4, 4, (4 : Int)]) j (n := 11) rfl (by omega)
      have hz4 : z = 4 := by have := List.mem_of_getElem? hz; simpa using this
      subst hz4
      refine X.opsEnd ?_
      refine X.seq ?_
      refine X.condT rfl ?_
      refine X.skip ?_
      refine X.seq ?_
      refine X.block ?_
      refine X.seq ?_
      refine X.region ?_
      refine X.opw X.wN rfl (X.idxS (hs16.keep hkm) Try.underlying63 Try.sizeOf27 rfl rfl ⟨by omega, by omega⟩) ?_
      refine X.opw X.wN rfl (X.loadS Try.isAgg27 (hs16.keep hkm) hz rfl (fun _ h => by rw [h.1]; rfl)) ?_
      refine X.opw X.wN rfl (X.assign (v := .int .i64 _) rfl) ?_
      refine X.opsEnd ?_
      refine X.seq ?_
      refine X.region ?_
      refine X.opw X.wN rfl (X.move (v := .int .i64 _) rfl) ?_
      refine X.opw X.wN rfl (X.neI rfl rfl) ?_
      refine X.opsEnd ?_
      refine X.condF rfl ?_
      refine X.skip ?_
      refine X.inBlock ?_
      refine X.region ?_
      refine X.opw X.wN rfl (X.add rfl rfl (X.w_i64 (by omega))) ?_
      refine X.opw X.wN rfl (X.move (v := .int .i64 _) rfl) ?_
      refine X.opsEnd ?_
      refine hback2 (j + 1) _ _ ⟨rfl, rfl, rfl, rfl, rfl, rfl, rfl, rfl, rfl, rfl, rfl, trivial⟩ ⟨by omega, hkm⟩ (by omega)
    · refine X.opsEnd ?_
      refine X.seq ?_
      refine X.condF rfl ?_
      refine X.exit rfl ?_
      refine X.seq ?_
      refine X.region ?_
      refine X.opw X.wN rfl (X.move rfl) ?_
      refine X.opE X.wN rfl (X.callE (Used_n x _ (hN.keep (((((((((((((hk4.trans hk5).trans hk6).trans hk7).trans hk8).trans hk9).trans hk10).trans hk11).trans hk12).trans hk13).trans hk14).trans hk15).trans hk16).trans hkm))) Try.call22 rfl rfl) ?_
      rintro _ w17 ⟨rfl, hk17⟩
      have hk17' := hk17.size
      refine X.opw X.wN rfl (X.move rfl) ?_
      refine X.opw X.wN rfl (X.extr rfl rfl) ?_
      refine X.opw X.wN rfl (X.extr rfl rfl) ?_
      refine X.opw X.wN rfl (X.assign (v := .int .i64 _) rfl) ?_
      refine X.opw X.wN rfl (X.assign (v := .int .i64 _) rfl) ?_
      refine X.opsEnd ?_
      refine X.seq ?_
      refine X.region ?_
      refine X.opw X.wN rfl (X.move rfl) ?_
      refine X.opE X.wN rfl (X.callE (Loose_n x _ (hN.keep ((((((((((((((hk4.trans hk5).trans hk6).trans hk7).trans hk8).trans hk9).trans hk10).trans hk11).trans hk12).trans hk13).trans hk14).trans hk15).trans hk16).trans hkm).trans hk17))) Try.call20 rfl rfl) ?_
      rintro _ w18 ⟨rfl, hk18⟩
      have hk18' := hk18.size
      refine X.opw X.wN rfl (X.move rfl) ?_
      refine X.opw X.wN rfl (X.extr rfl rfl) ?_
      refine X.opw X.wN rfl (X.extr rfl rfl) ?_
      refine X.opw X.wN rfl (X.extr rfl rfl) ?_
      refine X.opw X.wN rfl (X.assign (v := .int .i64 _) rfl) ?_
      refine X.opw X.wN rfl (X.assign (v := .int .i64 _) rfl) ?_
      refine X.opw X.wN rfl (X.assign (v := .int .i64 _) rfl) ?_
      refine X.opsEnd ?_
      refine X.seq ?_
      refine X.region ?_
      refine X.opw X.wN rfl (X.move rfl) ?_
      refine X.opw X.wN rfl (X.lenSl Try.underlying22 rfl) ?_
      refine X.opw X.wN rfl (X.move (v := .int .i64 _) rfl) ?_
      refine X.opw X.wN rfl (X.add rfl rfl (X.w_i64 (by omega))) ?_
      refine X.opw X.wN rfl (X.move (v := .int .i64 _) rfl) ?_
      refine X.opw X.wN rfl (X.add rfl rfl (X.w_i64 (by omega))) ?_
      refine X.opw X.wN rfl (X.move (v := .int .i64 _) rfl) ?_
      refine X.opw X.wN rfl (X.add rfl rfl (X.w_i64 (by omega))) ?_
      refine X.opw X.wN rfl (X.move (v := .int .i64 _) rfl) ?_
      refine X.opw X.wN rfl (X.add rfl rfl (X.w_i64 (by omega))) ?_
      refine X.opw X.wN rfl (X.move (v := .int .i64 _) rfl) ?_
      refine X.opw X.wN rfl (X.add rfl rfl (X.w_i64 (by omega))) ?_
      refine X.opw X.wN rfl (X.move (v := .int .i64 _) rfl) ?_
      refine X.opw X.wN rfl (X.add rfl rfl (X.w_i64 (by omega))) ?_
      refine X.opw X.wN rfl (X.move rfl) ?_
      refine X.opE X.wN rfl (X.callE (Names_n x _ (hN.keep (((((((((((((((hk4.trans hk5).trans hk6).trans hk7).trans hk8).trans hk9).trans hk10).trans hk11).trans hk12).trans hk13).trans hk14).trans hk15).trans hk16).trans hkm).trans hk17).trans hk18))) Try.call23 rfl rfl) ?_
      rintro _ w19 ⟨rfl, hk19⟩
      have hk19' := hk19.size
      refine X.opw X.wN rfl (X.lenSl Try.underlying66 rfl) ?_
      refine X.opw X.wN rfl (X.add rfl rfl (X.w_i64 (by omega))) ?_
      refine X.opw X.wN rfl (X.neI rfl rfl) ?_
      refine X.opw X.wN rfl (X.move (v := .bool false) rfl) ?_
      refine X.opw (X.wG rfl rfl rfl) rfl (X.move rfl) ?_
      refine X.opw (X.wG rfl rfl rfl) rfl (X.nePtrN (A := none) Try.underlying26 rfl rfl) ?_
      refine X.opw X.wN rfl (X.pickF (v := .bool false) rfl rfl) ?_
      refine X.opw X.wN rfl (X.move (v := .bool false) rfl) ?_
      refine X.opw (X.wG rfl rfl rfl) rfl (X.move rfl) ?_
      refine X.opE (X.wG rfl rfl rfl) rfl (X.callE (Down_n x _ (hN.keep ((((((((((((((((hk4.trans hk5).trans hk6).trans hk7).trans hk8).trans hk9).trans hk10).trans hk11).trans hk12).trans hk13).trans hk14).trans hk15).trans hk16).trans hkm).trans hk17).trans hk18).trans hk19))) Try.call24 rfl rfl) ?_
      rintro _ w20 ⟨rfl, hk20⟩
      have hk20' := hk20.size
      refine X.opw X.wN rfl (X.pickF (v := .bool false) rfl rfl) ?_
      refine X.opsEnd ?_
      refine X.condF rfl ?_
      refine X.skip ?_
      refine X.inBlock ?_
      refine X.region ?_
      refine X.opw X.wN rfl (X.add rfl rfl (X.w_i64 (by omega))) ?_
      refine X.opw X.wN rfl (X.move (v := .int .i64 _) rfl) ?_
      refine X.opsEnd ?_
      refine hback (i + 1) _ _ ⟨rfl, rfl, rfl, rfl, trivial⟩ ⟨by omega, (hBo.keep (((((((((((((((((hk4.trans hk5).trans hk6).trans hk7).trans hk8).trans hk9).trans hk10).trans hk11).trans hk12).trans hk13).trans hk14).trans hk15).trans hk16).trans hkm).trans hk17).trans hk18).trans hk19).trans hk20)), hBz.keep (((((((((((((((((hk4.trans hk5).trans hk6).trans hk7).trans hk8).trans hk9).trans hk10).trans hk11).trans hk12).trans hk13).trans hk14).trans hk15).trans hk16).trans hkm).trans hk17).trans hk18).trans hk19).trans hk20), ((hsl.keep (((((((((((((((((hk4.trans hk5).trans hk6).trans hk7).trans hk8).trans hk9).trans hk10).trans hk11).trans hk12).trans hk13).trans hk14).trans hk15).trans hk16).trans hkm).trans hk17).trans hk18).trans hk19).trans hk20))).wide (Nat.le_refl _) (by omega), ((((((((((((((((((hk.trans hk4).trans hk5).trans hk6).trans hk7).trans hk8).trans hk9).trans hk10).trans hk11).trans hk12).trans hk13).trans hk14).trans hk15).trans hk16).trans hkm).trans hk17).trans hk18).trans hk19).trans hk20)⟩ (by omega)
  · refine X.opsEnd ?_
    refine X.seq ?_
    refine X.condF rfl ?_
    refine X.exit rfl ?_
    refine X.seq ?_
    refine X.region ?_
    refine X.opE X.wN rfl (X.callE (hal _) Try.call11 rfl rfl) ?_
    rintro _ w21 ⟨rfl, hk21⟩
    have hk21' := hk21.size
    refine X.opw X.wN rfl (X.assign (v := .bool _) rfl) ?_
    refine X.opsEnd ?_
    refine X.ret1 (v := (.bool _)) Try.func5 Try.results5 rfl ?_
    exact ⟨rfl, (hk.trans hk21)⟩
end Go.Proofs.Ytcdebnppbnmmgaa
