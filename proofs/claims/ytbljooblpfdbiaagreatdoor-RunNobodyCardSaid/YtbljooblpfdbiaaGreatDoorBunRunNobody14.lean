/- Texts that the proof of RunNobody stands on, part 14. -/
import Derived.Test.YtbljooblpfdbiaaGreatDoorProg
import Derived.Test.YtbljooblpfdbiaaGreatDoorBunRunNobody13
set_option linter.unusedSimpArgs false
set_option linter.unusedVariables false
namespace Go.Proofs.YtbljooblpfdbiaaGreatDoor
open Go Go.Proofs.YtbljooblpfdbiaaGreatDoor.X
theorem E8e : ByteInfo Tryz.prog 5 := ByteInfo.of (by kernel_rfl)
def wrt (b : List UInt8) (a : Nat) (x : List UInt8) : List UInt8 := (fun y : List UInt8 => y.take a ++ x ++ y.drop (a + x.length)) (b ++ List.replicate (max b.length (a + x.length) - b.length) 0)
def markL (k : Int) : Nat → Nat → LS → LS
  | _, 0, l => l
  | s, n + 1, l => markL k (s + 1) n (put (k, (s : Int)) true l)
def secs (n : Nat) : Nat := (n + 63) / 64
def touched (a n : Nat) : Nat := if n = 0 then 0 else secs (a + n) - a / 64
def DS.write (nm : ByteArray) (a : Int) (x : List UInt8) (s : DS) : Int × DS :=
  if s.down = true then (54, s) else match asc nm s.dir with
  | none => (52, s)
  | some k => if a < 0 ∨ ((fat s.fs k).1.length : Int) < a then (5, s) else if 1048576 - a < (x.length : Int) then (2, s)
    else if s.rm < (s.used : Int) + (secs (max (fat s.fs k).1.length (a.toNat + x.length)) : Int) - (secs (fat s.fs k).1.length : Int) then (53, s)
    else (0, ({ s with fs := s.fs.set k.toNat (wrt (fat s.fs k).1 a.toNat x, (fat s.fs k).2), ls := markL k (a.toNat / 64) (touched a.toNat x.length) s.ls } : DS).did)
theorem wrt_len (b : List UInt8) (a : Nat) (x : List UInt8) (h : a ≤ b.length) : (wrt b a x).length = max b.length (a + x.length) := by
  simp only [wrt, List.length_append, List.length_take, List.length_drop, List.length_replicate]; omega
set_option maxHeartbeats 4000000 in
set_option maxRecDepth 100000 in
theorem Write_c {col : Nat → Nat} {b bf bd bx bl : Nat} {A : Option Addr} {n c : Nat} {pt : List Nat} {s0 : DS} {lo hi m2 cy : Nat} {Ay : Option Addr} {y : List UInt8} (nm : ByteArray) (a : Int) (w : World) (h : DkB col w b bf bd bx bl A n c pt s0) (hok : s0.Ok) (ha : -9223372036854775808 ≤ a ∧ a ≤ 9223372036854775807) (hy : Sl KB lo hi w Ay m2 y) (hy0 : ∀ q, lo ≤ q → q < hi → col q = 0 ∧ q < w.heap.size) (hym : m2 ≤ 1000000000) : Ret Tryz.prog 37 #[ptrV b, .string nm, .int .i64 a, .slice Ay m2 cy] w fun r w' => r = .int .i64 (s0.write nm a y).1 ∧ ∃ col', DkR col' w' b (s0.write nm a y).2 ∧ Stp col w col' w' := by
  have hbl := h.B.lt
  have hfl := h.F.lt
  have hdl := h.G.lt
  have hxl := h.X.lt
  have hll := h.L.lt
  have hcb := h.cb
  have hcf := h.cf
  have hcd := h.cd
  have hcx := h.cx
  have hcl := h.cl
  obtain ⟨z1, z2, z3, z4, z5, z6, z7, z8, z9, z10⟩ := h.ne
  have hlt := h.lt
  have hok1 := hok.lf
  have hok2 := hok.few
  have hyl := hy.len
  have hub := hok.used
  have hrm := hok.rm
  refine X.enter Tryz.func37 rfl Tryz.ntmps37 rfl ?_
  refine X.seq ?_
  refine X.region ?_
  refine X.opw X.wN rfl (X.assign rfl) ?_
  refine X.opsEnd ?_
  refine X.seq ?_
  refine X.seq ?_
  refine X.region ?_
  refine X.opw X.wN rfl (X.move rfl) ?_
  refine X.opE X.wN rfl (X.callE (may_c_disk _ h.B) Tryz.call69 rfl rfl) ?_
  rintro _ w1 ⟨rfl, hk1⟩
  have hk1' := hk1.size
  refine X.opw X.wN rfl (X.assign (v := .int .i64 _) rfl) ?_
  refine X.opsEnd ?_
  refine X.seq ?_
  refine X.region ?_
  refine X.opw X.wN rfl (X.move (v := .int .i64 _) rfl) ?_
  refine X.opP X.wN rfl rfl (X.neI rfl rfl) (fun h19 => ?_) (fun h19 => ?_)
  · have hd : (s0.fu && decide (s0.lf ≤ 0)) = true := by
      cases hq : (s0.fu && decide (s0.lf ≤ 0)) with
      | true => rfl
      | false => rw [hq] at h19; simp at h19
    have hD : s0.down = true := hd
    refine X.opsEnd ?_
    refine X.condT rfl ?_
    refine X.seq ?_
    refine X.region ?_
    refine X.opw X.wN rfl (X.move (v := .int .i64 _) rfl) ?_
    refine X.opw X.wN rfl (X.assign (v := .int .i64 _) rfl) ?_
    refine X.opsEnd ?_
    refine X.ret1 (v := (.int .i64 _)) Tryz.func37 Tryz.results37 rfl ?_
    have e : s0.write nm a y = (54, s0) := by simp only [DS.write, if_pos hD]
    rw [e]
    exact ⟨by rw [if_pos hd], col, (h.keep hk1).r, Stp.keep hk1⟩
  · have hd : ¬ (s0.fu && decide (s0.lf ≤ 0)) = true := by
      cases hq : (s0.fu && decide (s0.lf ≤ 0)) with
      | false => simp
      | true => rw [hq] at h19; simp at h19
    have hD : ¬ s0.down = true := hd
    refine X.opsEnd ?_
    refine X.condF rfl ?_
    refine X.skip ?_
    refine X.seq ?_
    refine X.region ?_
    refine X.opw X.wN rfl (X.move rfl) ?_
    refine X.opw X.wN rfl (X.move (v := .string _) rfl) ?_
    refine X.opE X.wN rfl (X.callE (named_c nm _ (h.B.keep hk1) (h.G.keep hk1) (h.F.keep hk1)) Tryz.call84 rfl rfl) ?_
    rintro _ w2 ⟨rfl, hk2⟩
    have hk2' := hk2.size
    refine X.opw X.wN rfl (X.move rfl) ?_
    refine X.opw X.wN rfl (X.extr rfl rfl) ?_
    refine X.opw X.wN rfl (X.extr rfl rfl) ?_
    refine X.opw X.wN rfl (X.extr rfl rfl) ?_
    refine X.opw X.wN rfl (X.assign (v := .int .i64 _) rfl) ?_
    refine X.opw X.wN rfl (X.assign rfl) ?_
    refine X.opw X.wN rfl (X.assign (v := .bool _) rfl) ?_
    refine X.opsEnd ?_
    refine X.seq ?_
    refine X.block ?_
    refine X.seq ?_
    refine X.region ?_
    refine X.opw X.wN rfl (X.move (v := .bool _) rfl) ?_
    refine X.opw X.wN rfl (X.not_ rfl) ?_
    refine X.opw X.wN rfl (X.assign (v := .bool _) rfl) ?_
    refine X.opsEnd ?_
    refine X.condB rfl (fun hc => ?_) (fun hc => ?_)
    · have hno : asc nm s0.dir = none := by
        cases ha : asc nm s0.dir with
        | none => rfl
        | some k => rw [ha] at hc; simp at hc
      refine X.seq ?_
      refine X.region ?_
      refine X.opw X.wN rfl (X.assign rfl) ?_
      refine X.opsEnd ?_
      refine X.ret1 (v := (.int .i64 _)) Tryz.func37 Tryz.results37 rfl ?_
      have e : s0.write nm a y = (52, s0) := by simp only [DS.write, if_neg hD, hno]
      rw [e]
      exact ⟨rfl, col, (h.keep (hk1.trans hk2)).r, Stp.keep (hk1.trans hk2)⟩
    · obtain ⟨k, hfa⟩ : ∃ k, asc nm s0.dir = some k := by
        cases ha : asc nm s0.dir with
        | none => rw [ha] at hc; simp at hc
        | some k => exact ⟨k, rfl⟩
      obtain ⟨hka, hkb, _⟩ := hok.dir _ (asc_some hfa)
      have hka : 0 ≤ k := hka
      have hkb : k < s0.fs.length := hkb
      obtain ⟨pf, f, A1, n1, c1, A2, n2, c2, hfb, hpf, hff, hn1, hn2, hfl1, hpc, hBf, hM1, hM2⟩ := h.at_ hka hkb
      have hlf := hok.len hff
      have hpl2 := hBf.lt
      rw [hfa, Option.getD_some, hfb, Option.getD_some]
      have hfat := fat_at hff
      have hfl2 : f.1.length = n1 := hn1.symm
      refine X.seq ?_
      refine X.region ?_
      refine X.opw X.wN rfl (X.move (v := .int .i64 _) rfl) ?_
      refine X.opP X.wN rfl rfl (X.lss rfl rfl) (fun h33 => ?_) (fun h33 => ?_)
      · refine X.opw X.wN rfl (X.move (v := .bool true) rfl) ?_
        refine X.opS rfl rfl rfl rfl rfl ?_
        refine X.opS rfl rfl rfl rfl rfl ?_
        refine X.opS rfl rfl rfl rfl rfl ?_
        refine X.opS rfl rfl rfl rfl rfl ?_
        refine X.opS rfl rfl rfl rfl rfl ?_
        refine X.opS rfl rfl rfl rfl rfl ?_
        refine X.opS rfl rfl rfl rfl rfl ?_
        refine X.opw X.wN rfl (X.pickT (v := .bool true) rfl rfl) ?_
        refine X.opw X.wN rfl (X.assign (v := .bool true) rfl) ?_
        refine X.opsEnd ?_
        refine X.condT rfl ?_
        refine X.seq ?_
        refine X.region ?_
        refine X.opw X.wN rfl (X.assign rfl) ?_
        refine X.opsEnd ?_
        refine X.ret1 (v := (.int .i64 _)) Tryz.func37 Tryz.results37 rfl ?_
        have e : s0.write nm a y = (5, s0) := by
          simp only [DS.write, if_neg hD, hfa, hfat]
          rw [if_pos (by omega)]
        rw [e]
        exact ⟨rfl, col, (h.keep (hk1.trans hk2)).r, Stp.keep (hk1.trans hk2)⟩
      · obtain ⟨p, rfl⟩ := Int.eq_ofNat_of_zero_le (show 0 ≤ a by omega)
        refine X.opw X.wN rfl (X.move (v := .bool false) rfl) ?_
        refine X.opw (X.wG rfl rfl rfl) rfl (X.move (v := .int .i64 _) rfl) ?_
        refine X.opw (X.wG rfl rfl rfl) rfl (X.move rfl) ?_
        refine X.opw (X.wG rfl rfl rfl) rfl (X.nilCk rfl) ?_
        refine X.opw (X.wG rfl rfl rfl) rfl (X.fldB (j := 0) Tryz.underlying140 rfl rfl Tryz.sizeOf43 rfl) ?_
        refine X.opw (X.wG rfl rfl rfl) rfl (X.load1B Tryz.isAgg43 (hBf.keep (hk1.trans hk2)) rfl rfl) ?_
        refine X.opw (X.wG rfl rfl rfl) rfl (X.lenSl Tryz.underlying43 rfl) ?_
        refine X.opP (X.wG rfl rfl rfl) rfl rfl (X.gtr rfl rfl) (fun h41 => ?_) (fun h41 => ?_)
        · refine X.opw X.wN rfl (X.pickF (v := .bool true) rfl rfl) ?_
          refine X.opw X.wN rfl (X.assign (v := .bool true) rfl) ?_
          refine X.opsEnd ?_
          refine X.condT rfl ?_
          refine X.seq ?_
          refine X.region ?_
          refine X.opw X.wN rfl (X.assign rfl) ?_
          refine X.opsEnd ?_
          refine X.ret1 (v := (.int .i64 _)) Tryz.func37 Tryz.results37 rfl ?_
          have e : s0.write nm (p : Int) y = (5, s0) := by
            simp only [DS.write, if_neg hD, hfa, hfat]
            rw [if_pos (by omega)]
          rw [e]
          exact ⟨rfl, col, (h.keep (hk1.trans hk2)).r, Stp.keep (hk1.trans hk2)⟩
        · refine X.opw X.wN rfl (X.pickF (v := .bool false) rfl rfl) ?_
          refine X.opw X.wN rfl (X.assign (v := .bool false) rfl) ?_
          refine X.opsEnd ?_
          refine X.condF rfl ?_
          refine X.seq ?_
          refine X.region ?_
          refine X.opw X.wN rfl (X.move rfl) ?_
          refine X.opw X.wN rfl (X.lenSl Tryz.underlying43 rfl) ?_
          refine X.opw X.wN rfl (X.move (v := .int .i64 _) rfl) ?_
          refine X.opw X.wN rfl (X.sub rfl rfl (X.w_i64 (by omega))) ?_
          refine X.opP X.wN rfl rfl (X.gtr rfl rfl) (fun h48 => ?_) (fun h48 => ?_)
          · refine X.opw X.wN rfl (X.assign (v := .bool true) rfl) ?_
            refine X.opsEnd ?_
            refine X.condT rfl ?_
            refine X.seq ?_
            refine X.region ?_
            refine X.opw X.wN rfl (X.assign rfl) ?_
            refine X.opsEnd ?_
            refine X.ret1 (v := (.int .i64 _)) Tryz.func37 Tryz.results37 rfl ?_
            have e : s0.write nm (p : Int) y = (2, s0) := by
              simp only [DS.write, if_neg hD, hfa, hfat]
              rw [if_neg (by omega), if_pos (by omega)]
            rw [e]
            exact ⟨rfl, col, (h.keep (hk1.trans hk2)).r, Stp.keep (hk1.trans hk2)⟩
          · refine X.opw X.wN rfl (X.assign (v := .bool false) rfl) ?_
            refine X.opsEnd ?_
            refine X.condF rfl ?_
            refine X.skip ?_
            refine X.inBlock ?_
            refine X.seq ?_
            refine X.region ?_
            refine X.opw X.wN rfl (X.move (v := .int .i64 _) rfl) ?_
            refine X.opw X.wN rfl (X.move rfl) ?_
            refine X.opw X.wN rfl (X.lenSl Tryz.underlying43 rfl) ?_
            refine X.opw X.wN rfl (X.add (c := ((p + m2 : Nat) : Int)) rfl rfl (by rw [X.w_i64 (by omega)]; omega)) ?_
            refine X.opw X.wN rfl (X.assign (v := .int .i64 _) rfl) ?_
            refine X.opsEnd ?_
            refine X.seq ?_
            refine X.region ?_
            refine X.opw X.wN rfl (X.move rfl) ?_
            refine X.opw X.wN rfl (X.nilCk rfl) ?_
            refine X.opw X.wN rfl (X.fldB (j := 0) Tryz.underlying140 rfl rfl Tryz.sizeOf43 rfl) ?_
            refine X.opw X.wN rfl (X.load1B Tryz.isAgg43 (hBf.keep (hk1.trans hk2)) rfl rfl) ?_
            refine X.opw X.wN rfl (X.lenSl Tryz.underlying43 rfl) ?_
            refine X.opw X.wN rfl (X.move (v := .int .i64 _) rfl) ?_
            refine X.opw X.wN rfl (X.maxII (c := ((max n1 (p + m2) : Nat) : Int)) rfl rfl (by split <;> omega)) ?_
            refine X.opw X.wN rfl (X.assign (v := .int .i64 _) rfl) ?_
            refine X.opsEnd ?_
            refine X.seq ?_
            refine X.seq ?_
            refine X.regionD (fun _ => False) 17 (by kernel_rfl) (by kernel_rfl) (fun w3 hk3 hz3 => ?_)
            refine X.dTake 0 rfl (by kernel_rfl) (by kernel_rfl) (by kernel_rfl) (X.dwN rfl) (fun w' hk' => X.move rfl) ?_
            refine X.dTake 2 rfl (by kernel_rfl) (by kernel_rfl) (by kernel_rfl) (X.dwN rfl) (fun w' hk' => X.move (v := .int .i64 _) rfl) ?_
            refine X.dTake 5 rfl (by kernel_rfl) (by kernel_rfl) (by kernel_rfl) (X.dwN rfl) (fun w' hk' => X.move rfl) ?_
            refine X.dTake 6 rfl (by kernel_rfl) (by kernel_rfl) (by kernel_rfl) (X.dwN rfl) (fun w' hk' => X.nilCk rfl) ?_
            refine X.dTake 7 rfl (by kernel_rfl) (by kernel_rfl) (by kernel_rfl) (X.dwN rfl) (fun w' hk' => X.fldB (j := 0) Tryz.underlying140 rfl rfl Tryz.sizeOf43 rfl) ?_
            refine X.dTake 8 rfl (by kernel_rfl) (by kernel_rfl) (by kernel_rfl) (X.dwN rfl) (fun w' hk' => X.load1B Tryz.isAgg43 (hBf.keep (((hk1.trans hk2).trans hk3).trans hk')) rfl rfl) ?_
            refine X.dTake 9 rfl (by kernel_rfl) (by kernel_rfl) (by kernel_rfl) (X.dwN rfl) (fun w' hk' => X.lenSl Tryz.underlying43 rfl) ?_
            refine X.dTake 12 rfl (by kernel_rfl) (by kernel_rfl) (by kernel_rfl) (X.dwN rfl) (fun w' hk' => X.move rfl) ?_
            refine X.dTake 13 rfl (by kernel_rfl) (by kernel_rfl) (by kernel_rfl) (X.dwN rfl) (fun w' hk' => X.nilCk rfl) ?_
            refine X.dTake 14 rfl (by kernel_rfl) (by kernel_rfl) (by kernel_rfl) (X.dwN rfl) (fun w' hk' => X.fldB (j := 0) Tryz.underlying98 rfl rfl Tryz.sizeOf3 rfl) ?_
            refine X.dTake 15 rfl (by kernel_rfl) (by kernel_rfl) (by kernel_rfl) (X.dwN rfl) (fun w' hk' => X.load1B Tryz.isAgg3 (h.B.keep (((hk1.trans hk2).trans hk3).trans hk')) rfl rfl) ?_
            refine X.dE (i := 1) (by kernel_rfl) rfl (X.dwN rfl) (X.callE (used_c _ (h.keep ((hk1.trans hk2).trans hk3)) hok) Tryz.call85 rfl rfl) (by rintro _ w4 ⟨rfl, hk4⟩ _; exact hk4.mono (fun _ _ h => h.elim)) ?_
            rintro _ w4 ⟨rfl, hk4⟩
            have hk4' := hk4.size
            refine X.dE (i := 3) (by kernel_rfl) rfl (X.dwN rfl) (X.callE (sectors_c _ _ (by omega)) Tryz.call86 rfl rfl) (by rintro _ w5 ⟨rfl, hk5⟩ _; exact hk5.mono (fun _ _ h => h.elim)) ?_
            rintro _ w5 ⟨rfl, hk5⟩
            have hk5' := hk5.size
            refine X.dTake 4 rfl (by kernel_rfl) (by kernel_rfl) (by kernel_rfl) (X.dwN rfl) (fun w' hk' => X.add rfl rfl (X.w_i64 (by omega))) ?_
            refine X.dE (i := 10) (by kernel_rfl) rfl (X.dwN rfl) (X.callE (sectors_c _ _ (by omega)) Tryz.call86 rfl rfl) (by rintro _ w6 ⟨rfl, hk6⟩ _; exact hk6.mono (fun _ _ h => h.elim)) ?_
            rintro _ w6 ⟨rfl, hk6⟩
            have hk6' := hk6.size
            refine X.dTake 11 rfl (by kernel_rfl) (by kernel_rfl) (by kernel_rfl) (X.dwN rfl) (fun w' hk' => X.sub rfl rfl (X.w_i64 (by omega))) ?_
            refine X.dTake 16 rfl (by kernel_rfl) (by kernel_rfl) (by kernel_rfl) (X.dwN rfl) (fun w' hk' => X.gtr rfl rfl) ?_
            refine X.dEnd (by kernel_rfl) ?_
            refine X.condB rfl (fun h76 => ?_) (fun h76 => ?_)
            · have h76 := of_decide_eq_true h76
              refine X.seq ?_
              refine X.region ?_
              refine X.opw X.wN rfl (X.assign rfl) ?_
              refine X.opsEnd ?_
              refine X.ret1 (v := (.int .i64 _)) Tryz.func37 Tryz.results37 rfl ?_
              have e : s0.write nm (p : Int) y = (53, s0) := by
                simp only [DS.write, if_neg hD, hfa, hfat]
                rw [if_neg (by omega), if_neg (by omega), Int.toNat_natCast, hyl, hfl2, if_pos (by rw [secs, secs]; omega)]
              rw [e]
              exact ⟨rfl, col, (h.keep (((((hk1.trans hk2).trans hk3).trans hk4).trans hk5).trans hk6)).r, Stp.keep (((((hk1.trans hk2).trans hk3).trans hk4).trans hk5).trans hk6)⟩
            · have h76 := of_decide_eq_false h76
              refine X.skip ?_
              refine X.seq ?_
              refine X.regionD (fun q => col q = 8 + 3 * k.toNat ∨ w.heap.size ≤ q) 13 (by kernel_rfl) (by kernel_rfl) (fun w7 hk7 hz7 => ?_)
              refine X.dTake 0 rfl (by kernel_rfl) (by kernel_rfl) (by kernel_rfl) (X.dwN rfl) (fun w' hk' => X.move rfl) ?_
              refine X.dTake 1 rfl (by kernel_rfl) (by kernel_rfl) (by kernel_rfl) (X.dwN rfl) (fun w' hk' => X.move rfl) ?_
              refine X.dTake 2 rfl (by kernel_rfl) (by kernel_rfl) (by kernel_rfl) (X.dwN rfl) (fun w' hk' => X.nilCk rfl) ?_
              refine X.dTake 3 rfl (by kernel_rfl) (by kernel_rfl) (by kernel_rfl) (X.dwN rfl) (fun w' hk' => X.fldB (j := 0) Tryz.underlying140 rfl rfl Tryz.sizeOf43 rfl) ?_
              refine X.dTake 4 rfl (by kernel_rfl) (by kernel_rfl) (by kernel_rfl) (X.dwN rfl) (fun w' hk' => X.load1B Tryz.isAgg43 ((hBf.keep ((((((hk1.trans hk2).trans hk3).trans hk4).trans hk5).trans hk6).trans hk7)).ext hk' (by first | (intros; (try simp only [] at *); omega) | (intro hh; (try simp only [] at hh); omega) | (intro q h1 h2; (try simp only [] at h1 h2); have := hlt q (by omega); omega) | (intro hh; have hh : _ = _ := hh; subst hh; omega) | (intro q h1 h2; have h2 : q = _ := h2; subst h2; (try simp only [] at h1); omega) | (intro q h1 h2; (try simp only [] at h1 h2); omega) | (intro q h1 h2; have h2 : q = _ := h2; have := hlt q (by (try simp only [] at h1); omega); omega) | (intro q h1 h2; (try simp only [] at h1 h2); rcases h2 with h2 | h2 | h2 <;> first | omega | (subst h2; omega)) | (intro q h1 h2; (try simp only [] at h1 h2); rcases h2 with h2 | h2 | h2 | h2 <;> first | omega | (subst h2; omega)))) rfl rfl) ?_
              refine X.dTake 5 rfl (by kernel_rfl) (by kernel_rfl) (by kernel_rfl) (X.dwN rfl) (fun w' hk' => X.move (v := .int .i64 _) rfl) ?_
              refine X.dTake 6 rfl (by kernel_rfl) (by kernel_rfl) (by kernel_rfl) (X.dwN rfl) (fun w' hk' => X.move rfl) ?_
              refine X.dTake 7 rfl (by kernel_rfl) (by kernel_rfl) (by kernel_rfl) (X.dwN rfl) (fun w' hk' => X.nilCk rfl) ?_
              refine X.dTake 8 rfl (by kernel_rfl) (by kernel_rfl) (by kernel_rfl) (X.dwN rfl) (fun w' hk' => X.fldB (j := 0) Tryz.underlying140 rfl rfl Tryz.sizeOf43 rfl) ?_
              refine X.dTake 9 rfl (by kernel_rfl) (by kernel_rfl) (by kernel_rfl) (X.dwN rfl) (fun w' hk' => X.load1B Tryz.isAgg43 ((hBf.keep ((((((hk1.trans hk2).trans hk3).trans hk4).trans hk5).trans hk6).trans hk7)).ext hk' (by first | (intros; (try simp only [] at *); omega) | (intro hh; (try simp only [] at hh); omega) | (intro q h1 h2; (try simp only [] at h1 h2); have := hlt q (by omega); omega) | (intro hh; have hh : _ = _ := hh; subst hh; omega) | (intro q h1 h2; have h2 : q = _ := h2; subst h2; (try simp only [] at h1); omega) | (intro q h1 h2; (try simp only [] at h1 h2); omega) | (intro q h1 h2; have h2 : q = _ := h2; have := hlt q (by (try simp only [] at h1); omega); omega) | (intro q h1 h2; (try simp only [] at h1 h2); rcases h2 with h2 | h2 | h2 <;> first | omega | (subst h2; omega)) | (intro q h1 h2; (try simp only [] at h1 h2); rcases h2 with h2 | h2 | h2 | h2 <;> first | omega | (subst h2; omega)))) rfl rfl) ?_
              refine X.dTake 10 rfl (by kernel_rfl) (by kernel_rfl) (by kernel_rfl) (X.dwN rfl) (fun w' hk' => X.lenSl Tryz.underlying43 rfl) ?_
              refine X.dTake 11 rfl (by kernel_rfl) (by kernel_rfl) (by kernel_rfl) (X.dwN rfl) (fun w' hk' => X.sub (c := ((max n1 (p + m2) - n1 : Nat) : Int)) rfl rfl (by rw [X.w_i64 (by omega)]; omega)) ?_
              refine X.dE (i := 12) (by kernel_rfl) rfl (X.dwN rfl) (X.appMkR (S := fun q => col q = 8 + 3 * k.toNat ∨ w.heap.size ≤ q) Tryz.underlying43 Tryz.underlying3 E8e rfl rfl (by omega) (Row.mono (T := fun q => col q = 8 + 3 * k.toNat ∨ w.heap.size ≤ q) (((((((hM1.keep hk1).keep hk2).keep hk3).keep hk4).keep hk5).keep hk6).keep hk7) (by intro q _ hS; exact .inl hS)) (by (try simp only [Int.toNat_natCast]); omega) (by intro q hq; right; omega)) (by rintro vA w8 ⟨hMa, hxa⟩ _; exact hxa.mono (fun k _ h => by (try simp only [] at *); omega)) ?_
              rintro vA w8 ⟨hMa, hxa⟩
              have hxa' := hxa.size
              refine X.dStep (i := 13) (by kernel_rfl) rfl (X.dwN rfl) (X.nilCk rfl) (fun h => absurd h (by decide)) ?_
              refine X.dStep (i := 14) (by kernel_rfl) rfl (X.dwN rfl) (X.fldB (j := 0) Tryz.underlying140 rfl rfl Tryz.sizeOf43 rfl) (fun h => absurd h (by decide)) ?_
              have q9 := hMa.slF KB_flat 0 (fun _ _ => Nat.zero_le _)
              obtain ⟨A9, c9, rfl, hc9, hs9⟩ := q9
              refine X.dE (i := 15) (by kernel_rfl) rfl (X.dwN rfl) (X.storeE Tryz.sizeOf43 ((hBf.keep ((((((hk1.trans hk2).trans hk3).trans hk4).trans hk5).trans hk6).trans hk7)).ext hxa (by first | (intros; (try simp only [] at *); omega) | (intro hh; (try simp only [] at hh); omega) | (intro q h1 h2; (try simp only [] at h1 h2); have := hlt q (by omega); omega) | (intro hh; have hh : _ = _ := hh; subst hh; omega) | (intro q h1 h2; have h2 : q = _ := h2; subst h2; (try simp only [] at h1); omega) | (intro q h1 h2; (try simp only [] at h1 h2); omega) | (intro q h1 h2; have h2 : q = _ := h2; have := hlt q (by (try simp only [] at h1); omega); omega) | (intro q h1 h2; (try simp only [] at h1 h2); rcases h2 with h2 | h2 | h2 <;> first | omega | (subst h2; omega)) | (intro q h1 h2; (try simp only [] at h1 h2); rcases h2 with h2 | h2 | h2 | h2 <;> first | omega | (subst h2; omega)))) rfl rfl rfl rfl) (fun _ _ _ h => absurd h (by decide)) ?_
              rintro _ w10 ⟨hB10, hx10, hz10⟩
              refine X.dEnd (by kernel_rfl) ?_
              refine X.seq ?_
              refine X.region ?_
              refine X.opw X.wN rfl (X.move rfl) ?_
              refine X.opw X.wN rfl (X.nilCk rfl) ?_
              refine X.opw X.wN rfl (X.fldB (j := 0) Tryz.underlying140 rfl rfl Tryz.sizeOf43 rfl) ?_
              refine X.opw X.wN rfl (X.load1B Tryz.isAgg43 hB10 rfl rfl) ?_
              refine X.opw X.wN rfl (X.move (v := .int .i64 _) rfl) ?_
              refine X.opw X.wN rfl (X.move (v := .int .i64 _) rfl) ?_
              refine X.opw X.wN rfl (X.move (v := .int .i64 _) rfl) ?_
              refine X.opw X.wN rfl (X.cut3N (p := p) (m := m2) Tryz.underlying43 Tryz.sizeOf5 rfl rfl rfl rfl (by have := hc9; simp only [List.length_append, List.length_replicate, Int.toNat_natCast] at this; omega)) ?_
              refine X.opw X.wN rfl (X.move rfl) ?_
              have hcap3 := ((hMa.ext hx10 (by intros; omega) (by first | (intros; (try simp only [] at *); omega) | (intro hh; (try simp only [] at hh); omega) | (intro q h1 h2; (try simp only [] at h1 h2); have := hlt q (by omega); omega) | (intro hh; have hh : _ = _ := hh; subst hh; omega) | (intro q h1 h2; have h2 : q = _ := h2; subst h2; (try simp only [] at h1); omega) | (intro q h1 h2; (try simp only [] at h1 h2); omega) | (intro q h1 h2; have h2 : q = _ := h2; have := hlt q (by (try simp only [] at h1); omega); omega) | (intro q h1 h2; (try simp only [] at h1 h2); rcases h2 with h2 | h2 | h2 <;> first | omega | (subst h2; omega)) | (intro q h1 h2; (try simp only [] at h1 h2); rcases h2 with h2 | h2 | h2 | h2 <;> first | omega | (subst h2; omega)))).rd KB_flat).1
              refine X.opE X.wN rfl (X.copyR (K := KB) (p := p) (m := m2) KB_flat (by decide) Tryz.underlying43 Tryz.sizeOf5 rfl rfl (hMa.ext hx10 (by intros; omega) (by first | (intros; (try simp only [] at *); omega) | (intro hh; (try simp only [] at hh); omega) | (intro q h1 h2; (try simp only [] at h1 h2); have := hlt q (by omega); omega) | (intro hh; have hh : _ = _ := hh; subst hh; omega) | (intro q h1 h2; have h2 : q = _ := h2; subst h2; (try simp only [] at h1); omega) | (intro q h1 h2; (try simp only [] at h1 h2); omega) | (intro q h1 h2; have h2 : q = _ := h2; have := hlt q (by (try simp only [] at h1); omega); omega) | (intro q h1 h2; (try simp only [] at h1 h2); rcases h2 with h2 | h2 | h2 <;> first | omega | (subst h2; omega)) | (intro q h1 h2; (try simp only [] at h1 h2); rcases h2 with h2 | h2 | h2 | h2 <;> first | omega | (subst h2; omega)))) (by rw [List.length_append, List.length_replicate, Int.toNat_natCast]; omega) (((((((((hy.keep hk1).keep hk2).keep hk3).keep hk4).keep hk5).keep hk6).keep hk7).ext hxa (by intro q g1 g2 g3; have hy1 := hy0 q g1 g2; first | omega | ((try simp only [] at g3); omega) | (have g3 : q = _ := g3; subst g3; omega) | (rcases g3 with g3 | g3 <;> first | omega | (subst g3; omega)))).ext hx10 (by intro q g1 g2 g3; have hy1 := hy0 q g1 g2; first | omega | ((try simp only [] at g3); omega) | (have g3 : q = _ := g3; subst g3; omega) | (rcases g3 with g3 | g3 <;> first | omega | (subst g3; omega))))) ?_
              rintro _ w11 ⟨rfl, hMc, hxc, hzc⟩
              refine X.opsEnd ?_
              refine X.seq ?_
              refine X.seq ?_
              refine X.region ?_
              refine X.opw X.wN rfl (X.move (v := .int .i64 _) rfl) ?_
              refine X.opw X.wN rfl (X.quo (c := ((p / 64 : Nat) : Int)) rfl rfl (by decide) (by rw [show ((p : Nat) : Int).tdiv 64 = ((p / 64 : Nat) : Int) from rfl]; exact X.w_i64 (by omega))) ?_
              refine X.opw X.wN rfl (X.assign (v := .int .i64 _) rfl) ?_
              refine X.opsEnd ?_
              refine X.block ?_
              have gB := ((((h.B.keep ((((((hk1.trans hk2).trans hk3).trans hk4).trans hk5).trans hk6).trans hk7)).ext hxa (by first | (intros; (try simp only [] at *); omega) | (intro hh; (try simp only [] at hh); omega) | (intro q h1 h2; (try simp only [] at h1 h2); have := hlt q (by omega); omega) | (intro hh; have hh : _ = _ := hh; subst hh; omega) | (intro q h1 h2; have h2 : q = _ := h2; subst h2; (try simp only [] at h1); omega) | (intro q h1 h2; (try simp only [] at h1 h2); omega) | (intro q h1 h2; have h2 : q = _ := h2; have := hlt q (by (try simp only [] at h1); omega); omega) | (intro q h1 h2; (try simp only [] at h1 h2); rcases h2 with h2 | h2 | h2 <;> first | omega | (subst h2; omega)) | (intro q h1 h2; (try simp only [] at h1 h2); rcases h2 with h2 | h2 | h2 | h2 <;> first | omega | (subst h2; omega)))).ext hx10 (by first | (intros; (try simp only [] at *); omega) | (intro hh; (try simp only [] at hh); omega) | (intro q h1 h2; (try simp only [] at h1 h2); have := hlt q (by omega); omega) | (intro hh; have hh : _ = _ := hh; subst hh; omega) | (intro q h1 h2; have h2 : q = _ := h2; subst h2; (try simp only [] at h1); omega) | (intro q h1 h2; (try simp only [] at h1 h2); omega) | (intro q h1 h2; have h2 : q = _ := h2; have := hlt q (by (try simp only [] at h1); omega); omega) | (intro q h1 h2; (try simp only [] at h1 h2); rcases h2 with h2 | h2 | h2 <;> first | omega | (subst h2; omega)) | (intro q h1 h2; (try simp only [] at h1 h2); rcases h2 with h2 | h2 | h2 | h2 <;> first | omega | (subst h2; omega)))).ext hxc (by first | (intros; (try simp only [] at *); omega) | (intro hh; (try simp only [] at hh); omega) | (intro q h1 h2; (try simp only [] at h1 h2); have := hlt q (by omega); omega) | (intro hh; have hh : _ = _ := hh; subst hh; omega) | (intro q h1 h2; have h2 : q = _ := h2; subst h2; (try simp only [] at h1); omega) | (intro q h1 h2; (try simp only [] at h1 h2); omega) | (intro q h1 h2; have h2 : q = _ := h2; have := hlt q (by (try simp only [] at h1); omega); omega) | (intro q h1 h2; (try simp only [] at h1 h2); rcases h2 with h2 | h2 | h2 <;> first | omega | (subst h2; omega)) | (intro q h1 h2; (try simp only [] at h1 h2); rcases h2 with h2 | h2 | h2 | h2 <;> first | omega | (subst h2; omega))))
              have gF := (hB10.ext hxc (by first | (intros; (try simp only [] at *); omega) | (intro hh; (try simp only [] at hh); omega) | (intro q h1 h2; (try simp only [] at h1 h2); have := hlt q (by omega); omega) | (intro hh; have hh : _ = _ := hh; subst hh; omega) | (intro q h1 h2; have h2 : q = _ := h2; subst h2; (try simp only [] at h1); omega) | (intro q h1 h2; (try simp only [] at h1 h2); omega) | (intro q h1 h2; have h2 : q = _ := h2; have := hlt q (by (try simp only [] at h1); omega); omega) | (intro q h1 h2; (try simp only [] at h1 h2); rcases h2 with h2 | h2 | h2 <;> first | omega | (subst h2; omega)) | (intro q h1 h2; (try simp only [] at h1 h2); rcases h2 with h2 | h2 | h2 | h2 <;> first | omega | (subst h2; omega))))
              have gM1 := hMc
              have gM2 := ((((((((((hM2.keep hk1).keep hk2).keep hk3).keep hk4).keep hk5).keep hk6).keep hk7).ext hxa (by intros; omega) (by first | (intros; (try simp only [] at *); omega) | (intro hh; (try simp only [] at hh); omega) | (intro q h1 h2; (try simp only [] at h1 h2); have := hlt q (by omega); omega) | (intro hh; have hh : _ = _ := hh; subst hh; omega) | (intro q h1 h2; have h2 : q = _ := h2; subst h2; (try simp only [] at h1); omega) | (intro q h1 h2; (try simp only [] at h1 h2); omega) | (intro q h1 h2; have h2 : q = _ := h2; have := hlt q (by (try simp only [] at h1); omega); omega) | (intro q h1 h2; (try simp only [] at h1 h2); rcases h2 with h2 | h2 | h2 <;> first | omega | (subst h2; omega)) | (intro q h1 h2; (try simp only [] at h1 h2); rcases h2 with h2 | h2 | h2 | h2 <;> first | omega | (subst h2; omega)))).ext hx10 (by intros; omega) (by first | (intros; (try simp only [] at *); omega) | (intro hh; (try simp only [] at hh); omega) | (intro q h1 h2; (try simp only [] at h1 h2); have := hlt q (by omega); omega) | (intro hh; have hh : _ = _ := hh; subst hh; omega) | (intro q h1 h2; have h2 : q = _ := h2; subst h2; (try simp only [] at h1); omega) | (intro q h1 h2; (try simp only [] at h1 h2); omega) | (intro q h1 h2; have h2 : q = _ := h2; have := hlt q (by (try simp only [] at h1); omega); omega) | (intro q h1 h2; (try simp only [] at h1 h2); rcases h2 with h2 | h2 | h2 <;> first | omega | (subst h2; omega)) | (intro q h1 h2; (try simp only [] at h1 h2); rcases h2 with h2 | h2 | h2 | h2 <;> first | omega | (subst h2; omega)))).ext hxc (by intros; omega) (by first | (intros; (try simp only [] at *); omega) | (intro hh; (try simp only [] at hh); omega) | (intro q h1 h2; (try simp only [] at h1 h2); have := hlt q (by omega); omega) | (intro hh; have hh : _ = _ := hh; subst hh; omega) | (intro q h1 h2; have h2 : q = _ := h2; subst h2; (try simp only [] at h1); omega) | (intro q h1 h2; (try simp only [] at h1 h2); omega) | (intro q h1 h2; have h2 : q = _ := h2; have := hlt q (by (try simp only [] at h1); omega); omega) | (intro q h1 h2; (try simp only [] at h1 h2); rcases h2 with h2 | h2 | h2 <;> first | omega | (subst h2; omega)) | (intro q h1 h2; (try simp only [] at h1 h2); rcases h2 with h2 | h2 | h2 | h2 <;> first | omega | (subst h2; omega))))
              have gL := ((((((((((h.L.keep hk1).keep hk2).keep hk3).keep hk4).keep hk5).keep hk6).keep hk7).ext hxa (by first | (intros; (try simp only [] at *); omega) | (intro hh; (try simp only [] at hh); omega) | (intro q h1 h2; (try simp only [] at h1 h2); have := hlt q (by omega); omega) | (intro hh; have hh : _ = _ := hh; subst hh; omega) | (intro q h1 h2; have h2 : q = _ := h2; subst h2; (try simp only [] at h1); omega) | (intro q h1 h2; (try simp only [] at h1 h2); omega) | (intro q h1 h2; have h2 : q = _ := h2; have := hlt q (by (try simp only [] at h1); omega); omega) | (intro q h1 h2; (try simp only [] at h1 h2); rcases h2 with h2 | h2 | h2 <;> first | omega | (subst h2; omega)) | (intro q h1 h2; (try simp only [] at h1 h2); rcases h2 with h2 | h2 | h2 | h2 <;> first | omega | (subst h2; omega)))).ext hx10 (by first | (intros; (try simp only [] at *); omega) | (intro hh; (try simp only [] at hh); omega) | (intro q h1 h2; (try simp only [] at h1 h2); have := hlt q (by omega); omega) | (intro hh; have hh : _ = _ := hh; subst hh; omega) | (intro q h1 h2; have h2 : q = _ := h2; subst h2; (try simp only [] at h1); omega) | (intro q h1 h2; (try simp only [] at h1 h2); omega) | (intro q h1 h2; have h2 : q = _ := h2; have := hlt q (by (try simp only [] at h1); omega); omega) | (intro q h1 h2; (try simp only [] at h1 h2); rcases h2 with h2 | h2 | h2 <;> first | omega | (subst h2; omega)) | (intro q h1 h2; (try simp only [] at h1 h2); rcases h2 with h2 | h2 | h2 | h2 <;> first | omega | (subst h2; omega)))).ext hxc (by first | (intros; (try simp only [] at *); omega) | (intro hh; (try simp only [] at hh); omega) | (intro q h1 h2; (try simp only [] at h1 h2); have := hlt q (by omega); omega) | (intro hh; have hh : _ = _ := hh; subst hh; omega) | (intro q h1 h2; have h2 : q = _ := h2; subst h2; (try simp only [] at h1); omega) | (intro q h1 h2; (try simp only [] at h1 h2); omega) | (intro q h1 h2; have h2 : q = _ := h2; have := hlt q (by (try simp only [] at h1); omega); omega) | (intro q h1 h2; (try simp only [] at h1 h2); rcases h2 with h2 | h2 | h2 <;> first | omega | (subst h2; omega)) | (intro q h1 h2; (try simp only [] at h1 h2); rcases h2 with h2 | h2 | h2 | h2 <;> first | omega | (subst h2; omega))))
              have gx := (Ext.andThen (Ext.andThen (Ext.andThen (Ext.andThen (Ext.andThen (Ext.andThen (Ext.andThen (Ext.andThen (Ext.andThen (Ext.andThen (Ext.refl (fun q => col q = 1 ∨ col q = 5 ∨ col q = 7 + 3 * k.toNat ∨ col q = 8 + 3 * k.toNat ∨ w.heap.size ≤ q) _) hk1 (by intro q h1 h2; first | exact (h2 : False).elim | ((try simp only [] at h2); omega) | (have h2 : q = _ := h2; subst h2; omega))) hk2 (by intro q h1 h2; first | exact (h2 : False).elim | ((try simp only [] at h2); omega) | (have h2 : q = _ := h2; subst h2; omega))) hk3 (by intro q h1 h2; first | exact (h2 : False).elim | ((try simp only [] at h2); omega) | (have h2 : q = _ := h2; subst h2; omega))) hk4 (by intro q h1 h2; first | exact (h2 : False).elim | ((try simp only [] at h2); omega) | (have h2 : q = _ := h2; subst h2; omega))) hk5 (by intro q h1 h2; first | exact (h2 : False).elim | ((try simp only [] at h2); omega) | (have h2 : q = _ := h2; subst h2; omega))) hk6 (by intro q h1 h2; first | exact (h2 : False).elim | ((try simp only [] at h2); omega) | (have h2 : q = _ := h2; subst h2; omega))) hk7 (by intro q h1 h2; first | exact (h2 : False).elim | ((try simp only [] at h2); omega) | (have h2 : q = _ := h2; subst h2; omega))) hxa (by intro q h1 h2; first | exact (h2 : False).elim | ((try simp only [] at h2); omega) | (have h2 : q = _ := h2; subst h2; omega))) hx10 (by intro q h1 h2; first | exact (h2 : False).elim | ((try simp only [] at h2); omega) | (have h2 : q = _ := h2; subst h2; omega))) hxc (by intro q h1 h2; first | exact (h2 : False).elim | ((try simp only [] at h2); omega) | (have h2 : q = _ := h2; subst h2; omega)))
              have gxs := gx.size
              refine X.loopL (σ := Nat × LS) (fun s => [(0, ptrV b), (3, .slice Ay m2 cy), (10, .int .i64 k), (13, .int .i64 ((p + m2 : Nat) : Int)), (15, .int .i64 (s.1 : Int))]) (fun s w' => MPL w' bl s.2 ∧ p / 64 ≤ s.1 ∧ s.1 ≤ p / 64 + touched p m2 ∧ markL k s.1 (p / 64 + touched p m2 - s.1) s.2 = markL k (p / 64) (touched p m2) s0.ls ∧ Ext (fun q => q = bl) w11 w') (fun s => p / 64 + touched p m2 - s.1) (p / 64, s0.ls) ⟨rfl, rfl, rfl, rfl, rfl, trivial⟩ ⟨gL, Nat.le_refl _, by omega, by rw [show p / 64 + touched p m2 - p / 64 = touched p m2 by omega], Ext.refl _ _⟩ ?_
              rintro ⟨sn, l⟩ e w9 ⟨hL9, hs1, hs2, hmk, hx9⟩ hback
              dsimp only at hL9 hs1 hs2 hmk ⊢
              have hx9' := hx9.size
              have htc : m2 = 0 ∧ touched p m2 = 0 ∨ 0 < m2 ∧ touched p m2 = (p + m2 + 63) / 64 - p / 64 := by
                rw [touched]
                split
                · exact .inl ⟨by assumption, rfl⟩
                · exact .inr ⟨by omega, rfl⟩
              refine X.seq ?_
              refine X.seq ?_
              refine X.region ?_
              refine X.opw X.wN rfl (X.move (v := .int .i64 _) rfl) ?_
              refine X.opw X.wN rfl (X.move (v := .int .i64 _) rfl) ?_
              refine X.opE X.wN rfl (X.callE (sectors_c _ _ (by omega)) Tryz.call86 rfl rfl) ?_
              rintro _ w12 ⟨rfl, hk12⟩
              have hk12' := hk12.size
              refine X.opP X.wN rfl rfl (X.lss rfl rfl) (fun h107 => ?_) (fun h107 => ?_)
              · refine X.opw X.wN rfl (X.move (v := .bool true) rfl) ?_
                refine X.opw (X.wG rfl rfl rfl) rfl (X.move rfl) ?_
                refine X.opw (X.wG rfl rfl rfl) rfl (X.lenSl Tryz.underlying43 rfl) ?_
                refine X.opP (X.wG rfl rfl rfl) rfl rfl (X.gtr rfl rfl) (fun h111 => ?_) (fun h111 => ?_)
                · refine X.opw X.wN rfl (X.pickT (v := .bool true) rfl rfl) ?_
                  refine X.opsEnd ?_
                  refine X.condT rfl ?_
                  refine X.skip ?_
                  refine X.seq ?_
                  refine X.block ?_
                  refine X.region ?_
                  refine X.opw X.wN rfl (X.move rfl) ?_
                  refine X.opw X.wN rfl (X.nilCk rfl) ?_
                  refine X.opw X.wN rfl (X.fldB (j := 6) Tryz.underlying98 rfl rfl Tryz.sizeOf95 rfl) ?_
                  refine X.opw X.wN rfl (X.load1B Tryz.isAgg95 ((gB.ext hx9 (by first | (intros; (try simp only [] at *); omega) | (intro hh; (try simp only [] at hh); omega) | (intro q h1 h2; (try simp only [] at h1 h2); have := hlt q (by omega); omega) | (intro hh; have hh : _ = _ := hh; subst hh; omega) | (intro q h1 h2; have h2 : q = _ := h2; subst h2; (try simp only [] at h1); omega) | (intro q h1 h2; (try simp only [] at h1 h2); omega) | (intro q h1 h2; have h2 : q = _ := h2; have := hlt q (by (try simp only [] at h1); omega); omega) | (intro q h1 h2; (try simp only [] at h1 h2); rcases h2 with h2 | h2 | h2 <;> first | omega | (subst h2; omega)) | (intro q h1 h2; (try simp only [] at h1 h2); rcases h2 with h2 | h2 | h2 | h2 <;> first | omega | (subst h2; omega)))).keep hk12) rfl rfl) ?_
                  refine X.opw X.wN rfl (X.move (v := .int .i64 _) rfl) ?_
                  refine X.opw X.wN rfl (X.move (v := .int .i64 _) rfl) ?_
                  refine X.opw X.wN rfl (X.buildB (vs := [(0, .int .i64 k), (1, .int .i64 (sn : Int))]) (cs := #[.int .i64 k, .int .i64 (sn : Int)]) rfl (by kernel_rfl)) ?_
                  refine X.opE X.wN rfl (X.updateV (enc := fun x : Int × Int => encPl x) (venc := fun v : Bool => .bool v) (a := (k, (sn : Int))) (v := true) Tryz.underlying95 keyPl (hL9.keep hk12) rfl rfl rfl) ?_
                  rintro _ w13 ⟨hLm, hxm, hzm⟩
                  refine X.opsEnd ?_
                  refine X.inBlock ?_
                  refine X.region ?_
                  refine X.opw X.wN rfl (X.move (v := .int .i64 _) rfl) ?_
                  refine X.opw X.wN rfl (X.add (c := ((sn + 1 : Nat) : Int)) rfl rfl (by rw [X.w_i64 (by omega)]; omega)) ?_
                  refine X.opw X.wN rfl (X.assign (v := .int .i64 _) rfl) ?_
                  refine X.opsEnd ?_
                  refine hback (sn + 1, put (k, (sn : Int)) true l) _ _ ⟨rfl, rfl, rfl, rfl, rfl, trivial⟩ ⟨hLm, by omega, by (dsimp only); omega, ?_, (Ext.andThen (Ext.andThen (Ext.andThen (Ext.refl (fun q => q = bl) _) hx9 (by intro q h1 h2; first | exact (h2 : False).elim | exact h2)) hk12 (by intro q h1 h2; first | exact (h2 : False).elim | exact h2)) hxm (by intro q h1 h2; first | exact (h2 : False).elim | exact h2))⟩ (by (dsimp only); omega)
                  rw [← hmk, show p / 64 + touched p m2 - sn = (p / 64 + touched p m2 - (sn + 1)) + 1 by omega]
                  rfl
                · refine X.opw X.wN rfl (X.pickT (v := .bool false) rfl rfl) ?_
                  refine X.opsEnd ?_
                  refine X.condF rfl ?_
                  refine X.exit rfl ?_
                  refine X.seq ?_
                  refine X.region ?_
                  refine X.opw X.wN rfl (X.move rfl) ?_
                  refine X.opE X.wN rfl (X.callE (did_c _ ((gB.ext hx9 (by first | (intros; (try simp only [] at *); omega) | (intro hh; (try simp only [] at hh); omega) | (intro q h1 h2; (try simp only [] at h1 h2); have := hlt q (by omega); omega) | (intro hh; have hh : _ = _ := hh; subst hh; omega) | (intro q h1 h2; have h2 : q = _ := h2; subst h2; (try simp only [] at h1); omega) | (intro q h1 h2; (try simp only [] at h1 h2); omega) | (intro q h1 h2; have h2 : q = _ := h2; have := hlt q (by (try simp only [] at h1); omega); omega) | (intro q h1 h2; (try simp only [] at h1 h2); rcases h2 with h2 | h2 | h2 <;> first | omega | (subst h2; omega)) | (intro q h1 h2; (try simp only [] at h1 h2); rcases h2 with h2 | h2 | h2 | h2 <;> first | omega | (subst h2; omega)))).keep hk12) (by omega)) Tryz.call72 rfl rfl) ?_
                  rintro _ w14 ⟨rfl, hBd, hxd⟩
                  have hxd' := hxd.size
                  refine X.opw X.wN rfl (X.assign (v := .int .i64 _) rfl) ?_
                  refine X.opsEnd ?_
                  refine X.ret1 (v := (.int .i64 _)) Tryz.func37 Tryz.results37 rfl ?_
                  have hfull : markL k (p / 64) (touched p m2) s0.ls = l := by rw [← hmk, show p / 64 + touched p m2 - sn = 0 by omega]; rfl
                  have hx : Ext (fun q => col q = 1 ∨ col q = 5 ∨ col q = 7 + 3 * k.toNat ∨ col q = 8 + 3 * k.toNat) w w14 := ((Ext.andThen (Ext.andThen (Ext.andThen gx hx9 (by intro q h1 h2; first | exact (h2 : False).elim | ((try simp only [] at h2); omega) | (have h2 : q = _ := h2; subst h2; omega))) hk12 (by intro q h1 h2; first | exact (h2 : False).elim | ((try simp only [] at h2); omega) | (have h2 : q = _ := h2; subst h2; omega))) hxd (by intro q h1 h2; first | exact (h2 : False).elim | ((try simp only [] at h2); omega) | (have h2 : q = _ := h2; subst h2; omega)))).mono (fun q hq t => by (try simp only [] at t); omega)
                  have hxs := hx.size
                  obtain ⟨col', hcol⟩ : ∃ col', col' = rec' col w.heap.size w14.heap.size (8 + 3 * k.toNat) := ⟨_, rfl⟩
                  have hold : ∀ q, q < w.heap.size → col' q = col q := fun q hq => by rw [hcol]; exact rec_old hq
                  have hnew : ∀ q, w.heap.size ≤ q → q < w14.heap.size → col' q = 8 + 3 * k.toNat := fun q h1 h2 => by rw [hcol]; exact rec_new h1 h2
                  have hltc : ∀ q, col' q ≠ 0 → q < w14.heap.size := fun q hq => by rw [hcol] at hq; exact rec_lt hlt hxs hq
                  have P := h.part (col' := col') (fun v => v = 1 ∨ v = 5 ∨ v = 7 + 3 * k.toNat ∨ v = 8 + 3 * k.toNat) hx hold (fun q hq ht => ht)
                  have hst : Stp col w col' w14 := ⟨hold, hx.mono (fun q _ t => by (try simp only [] at t); omega)⟩
                  have hrs : (f.1 ++ List.replicate ((max n1 (p + m2) - n1 : Nat) : Int).toNat 0).take p ++ y ++ (f.1 ++ List.replicate ((max n1 (p + m2) - n1 : Nat) : Int).toNat 0).drop (p + m2) = wrt f.1 p y := by
                    simp only [wrt, Int.toNat_natCast, hyl, hfl2]
                  have e : s0.write nm (p : Int) y = (0, ({ s0 with fs := s0.fs.set k.toNat (wrt f.1 p y, f.2), ls := l } : DS).did) := by
                    simp only [DS.write, if_neg hD, hfa, hfat]
                    rw [if_neg (by omega), if_neg (by omega), Int.toNat_natCast, hyl, hfl2, if_neg (by rw [secs, secs]; omega), hfull]
                  rw [e]
                  refine ⟨rfl, col', ⟨bf, bd, bx, bl, A, n, c, pt, ?_, P.F (by omega), P.G (by omega), P.X (by omega), ((hL9.keep hk12).ext hxd (by first | (intros; (try simp only [] at *); omega) | (intro hh; (try simp only [] at hh); omega) | (intro q h1 h2; (try simp only [] at h1 h2); have := hlt q (by omega); omega) | (intro hh; have hh : _ = _ := hh; subst hh; omega) | (intro q h1 h2; have h2 : q = _ := h2; subst h2; (try simp only [] at h1); omega) | (intro q h1 h2; (try simp only [] at h1 h2); omega) | (intro q h1 h2; have h2 : q = _ := h2; have := hlt q (by (try simp only [] at h1); omega); omega) | (intro q h1 h2; (try simp only [] at h1 h2); rcases h2 with h2 | h2 | h2 <;> first | omega | (subst h2; omega)) | (intro q h1 h2; (try simp only [] at h1 h2); rcases h2 with h2 | h2 | h2 | h2 <;> first | omega | (subst h2; omega)))), P.M (by omega), P.cb, P.cf, P.cd, P.cx, P.cl, hltc, ?_, ?_⟩, hst⟩
                  · have := hBd
                    simp only [DS.did, List.length_set]
                    exact this
                  · simp only [DS.did, List.length_set]; exact P.pl
                  · intro j q g h1 h2
                    by_cases hj : j = k.toNat
                    · subst hj
                      rw [hpf] at h1
                      have h2' : (s0.fs.set k.toNat (wrt f.1 p y, f.2))[k.toNat]? = some g := h2
                      rw [List.getElem?_set_self (by omega)] at h2'
                      cases h1; cases h2'
                      exact ⟨(hold _ hpl2).trans hpc, _, _, _, _, _, _, (((gF.ext hx9 (by first | (intros; (try simp only [] at *); omega) | (intro hh; (try simp only [] at hh); omega) | (intro q h1 h2; (try simp only [] at h1 h2); have := hlt q (by omega); omega) | (intro hh; have hh : _ = _ := hh; subst hh; omega) | (intro q h1 h2; have h2 : q = _ := h2; subst h2; (try simp only [] at h1); omega) | (intro q h1 h2; (try simp only [] at h1 h2); omega) | (intro q h1 h2; have h2 : q = _ := h2; have := hlt q (by (try simp only [] at h1); omega); omega) | (intro q h1 h2; (try simp only [] at h1 h2); rcases h2 with h2 | h2 | h2 <;> first | omega | (subst h2; omega)) | (intro q h1 h2; (try simp only [] at h1 h2); rcases h2 with h2 | h2 | h2 | h2 <;> first | omega | (subst h2; omega)))).keep hk12).ext hxd (by first | (intros; (try simp only [] at *); omega) | (intro hh; (try simp only [] at hh); omega) | (intro q h1 h2; (try simp only [] at h1 h2); have := hlt q (by omega); omega) | (intro hh; have hh : _ = _ := hh; subst hh; omega) | (intro q h1 h2; have h2 : q = _ := h2; subst h2; (try simp only [] at h1); omega) | (intro q h1 h2; (try simp only [] at h1 h2); omega) | (intro q h1 h2; have h2 : q = _ := h2; have := hlt q (by (try simp only [] at h1); omega); omega) | (intro q h1 h2; (try simp only [] at h1 h2); rcases h2 with h2 | h2 | h2 <;> first | omega | (subst h2; omega)) | (intro q h1 h2; (try simp only [] at h1 h2); rcases h2 with h2 | h2 | h2 | h2 <;> first | omega | (subst h2; omega)))), (by rw [← hrs]; exact ((((gM1.ext hx9 (by intros; omega) (by first | (intros; (try simp only [] at *); omega) | (intro hh; (try simp only [] at hh); omega) | (intro q h1 h2; (try simp only [] at h1 h2); have := hlt q (by omega); omega) | (intro hh; have hh : _ = _ := hh; subst hh; omega) | (intro q h1 h2; have h2 : q = _ := h2; subst h2; (try simp only [] at h1); omega) | (intro q h1 h2; (try simp only [] at h1 h2); omega) | (intro q h1 h2; have h2 : q = _ := h2; have := hlt q (by (try simp only [] at h1); omega); omega) | (intro q h1 h2; (try simp only [] at h1 h2); rcases h2 with h2 | h2 | h2 <;> first | omega | (subst h2; omega)) | (intro q h1 h2; (try simp only [] at h1 h2); rcases h2 with h2 | h2 | h2 | h2 <;> first | omega | (subst h2; omega)))).keep hk12).ext hxd (by intros; omega) (by first | (intros; (try simp only [] at *); omega) | (intro hh; (try simp only [] at hh); omega) | (intro q h1 h2; (try simp only [] at h1 h2); have := hlt q (by omega); omega) | (intro hh; have hh : _ = _ := hh; subst hh; omega) | (intro q h1 h2; have h2 : q = _ := h2; subst h2; (try simp only [] at h1); omega) | (intro q h1 h2; (try simp only [] at h1 h2); omega) | (intro q h1 h2; have h2 : q = _ := h2; have := hlt q (by (try simp only [] at h1); omega); omega) | (intro q h1 h2; (try simp only [] at h1 h2); rcases h2 with h2 | h2 | h2 <;> first | omega | (subst h2; omega)) | (intro q h1 h2; (try simp only [] at h1 h2); rcases h2 with h2 | h2 | h2 | h2 <;> first | omega | (subst h2; omega))))).mono (fun q hq hS => hS.elim (fun hS => by rw [hold q (hlt q (by omega))]; exact hS) (fun hS => hnew q hS hq))), ((((gM2.ext hx9 (by intros; omega) (by first | (intros; (try simp only [] at *); omega) | (intro hh; (try simp only [] at hh); omega) | (intro q h1 h2; (try simp only [] at h1 h2); have := hlt q (by omega); omega) | (intro hh; have hh : _ = _ := hh; subst hh; omega) | (intro q h1 h2; have h2 : q = _ := h2; subst h2; (try simp only [] at h1); omega) | (intro q h1 h2; (try simp only [] at h1 h2); omega) | (intro q h1 h2; have h2 : q = _ := h2; have := hlt q (by (try simp only [] at h1); omega); omega) | (intro q h1 h2; (try simp only [] at h1 h2); rcases h2 with h2 | h2 | h2 <;> first | omega | (subst h2; omega)) | (intro q h1 h2; (try simp only [] at h1 h2); rcases h2 with h2 | h2 | h2 | h2 <;> first | omega | (subst h2; omega)))).keep hk12).ext hxd (by intros; omega) (by first | (intros; (try simp only [] at *); omega) | (intro hh; (try simp only [] at hh); omega) | (intro q h1 h2; (try simp only [] at h1 h2); have := hlt q (by omega); omega) | (intro hh; have hh : _ = _ := hh; subst hh; omega) | (intro q h1 h2; have h2 : q = _ := h2; subst h2; (try simp only [] at h1); omega) | (intro q h1 h2; (try simp only [] at h1 h2); omega) | (intro q h1 h2; have h2 : q = _ := h2; have := hlt q (by (try simp only [] at h1); omega); omega) | (intro q h1 h2; (try simp only [] at h1 h2); rcases h2 with h2 | h2 | h2 <;> first | omega | (subst h2; omega)) | (intro q h1 h2; (try simp only [] at h1 h2); rcases h2 with h2 | h2 | h2 | h2 <;> first | omega | (subst h2; omega)))).mono (fun q hq hS => by rw [hold q (hlt q (by (try simp only [] at hS); omega))]; exact hS))⟩
                    · have h2' : (s0.fs.set k.toNat (wrt f.1 p y, f.2))[j]? = some g := h2
                      rw [List.getElem?_set_ne (fun e => hj e.symm)] at h2'
                      exact P.fl j q g h1 h2' (fun v a1 a2 => by omega)
              · refine X.opw X.wN rfl (X.move (v := .bool false) rfl) ?_
                refine X.opS rfl rfl rfl rfl rfl ?_
                refine X.opS rfl rfl rfl rfl rfl ?_
                refine X.opS rfl rfl rfl rfl rfl ?_
                refine X.opw X.wN rfl (X.pickF (v := .bool false) rfl rfl) ?_
                refine X.opsEnd ?_
                refine X.condF rfl ?_
                refine X.exit rfl ?_
                refine X.seq ?_
                refine X.region ?_
                refine X.opw X.wN rfl (X.move rfl) ?_
                refine X.opE X.wN rfl (X.callE (did_c _ ((gB.ext hx9 (by first | (intros; (try simp only [] at *); omega) | (intro hh; (try simp only [] at hh); omega) | (intro q h1 h2; (try simp only [] at h1 h2); have := hlt q (by omega); omega) | (intro hh; have hh : _ = _ := hh; subst hh; omega) | (intro q h1 h2; have h2 : q = _ := h2; subst h2; (try simp only [] at h1); omega) | (intro q h1 h2; (try simp only [] at h1 h2); omega) | (intro q h1 h2; have h2 : q = _ := h2; have := hlt q (by (try simp only [] at h1); omega); omega) | (intro q h1 h2; (try simp only [] at h1 h2); rcases h2 with h2 | h2 | h2 <;> first | omega | (subst h2; omega)) | (intro q h1 h2; (try simp only [] at h1 h2); rcases h2 with h2 | h2 | h2 | h2 <;> first | omega | (subst h2; omega)))).keep hk12) (by omega)) Tryz.call72 rfl rfl) ?_
                rintro _ w15 ⟨rfl, hBd, hxd⟩
                have hxd' := hxd.size
                refine X.opw X.wN rfl (X.assign (v := .int .i64 _) rfl) ?_
                refine X.opsEnd ?_
                refine X.ret1 (v := (.int .i64 _)) Tryz.func37 Tryz.results37 rfl ?_
                have hfull : markL k (p / 64) (touched p m2) s0.ls = l := by rw [← hmk, show p / 64 + touched p m2 - sn = 0 by omega]; rfl
                have hx : Ext (fun q => col q = 1 ∨ col q = 5 ∨ col q = 7 + 3 * k.toNat ∨ col q = 8 + 3 * k.toNat) w w15 := ((Ext.andThen (Ext.andThen (Ext.andThen gx hx9 (by intro q h1 h2; first | exact (h2 : False).elim | ((try simp only [] at h2); omega) | (have h2 : q = _ := h2; subst h2; omega))) hk12 (by intro q h1 h2; first | exact (h2 : False).elim | ((try simp only [] at h2); omega) | (have h2 : q = _ := h2; subst h2; omega))) hxd (by intro q h1 h2; first | exact (h2 : False).elim | ((try simp only [] at h2); omega) | (have h2 : q = _ := h2; subst h2; omega)))).mono (fun q hq t => by (try simp only [] at t); omega)
                have hxs := hx.size
                obtain ⟨col', hcol⟩ : ∃ col', col' = rec' col w.heap.size w15.heap.size (8 + 3 * k.toNat) := ⟨_, rfl⟩
                have hold : ∀ q, q < w.heap.size → col' q = col q := fun q hq => by rw [hcol]; exact rec_old hq
                have hnew : ∀ q, w.heap.size ≤ q → q < w15.heap.size → col' q = 8 + 3 * k.toNat := fun q h1 h2 => by rw [hcol]; exact rec_new h1 h2
                have hltc : ∀ q, col' q ≠ 0 → q < w15.heap.size := fun q hq => by rw [hcol] at hq; exact rec_lt hlt hxs hq
                have P := h.part (col' := col') (fun v => v = 1 ∨ v = 5 ∨ v = 7 + 3 * k.toNat ∨ v = 8 + 3 * k.toNat) hx hold (fun q hq ht => ht)
                have hst : Stp col w col' w15 := ⟨hold, hx.mono (fun q _ t => by (try simp only [] at t); omega)⟩
                have hrs : (f.1 ++ List.replicate ((max n1 (p + m2) - n1 : Nat) : Int).toNat 0).take p ++ y ++ (f.1 ++ List.replicate ((max n1 (p + m2) - n1 : Nat) : Int).toNat 0).drop (p + m2) = wrt f.1 p y := by
                  simp only [wrt, Int.toNat_natCast, hyl, hfl2]
                have e : s0.write nm (p : Int) y = (0, ({ s0 with fs := s0.fs.set k.toNat (wrt f.1 p y, f.2), ls := l } : DS).did) := by
                  simp only [DS.write, if_neg hD, hfa, hfat]
                  rw [if_neg (by omega), if_neg (by omega), Int.toNat_natCast, hyl, hfl2, if_neg (by rw [secs, secs]; omega), hfull]
                rw [e]
                refine ⟨rfl, col', ⟨bf, bd, bx, bl, A, n, c, pt, ?_, P.F (by omega), P.G (by omega), P.X (by omega), ((hL9.keep hk12).ext hxd (by first | (intros; (try simp only [] at *); omega) | (intro hh; (try simp only [] at hh); omega) | (intro q h1 h2; (try simp only [] at h1 h2); have := hlt q (by omega); omega) | (intro hh; have hh : _ = _ := hh; subst hh; omega) | (intro q h1 h2; have h2 : q = _ := h2; subst h2; (try simp only [] at h1); omega) | (intro q h1 h2; (try simp only [] at h1 h2); omega) | (intro q h1 h2; have h2 : q = _ := h2; have := hlt q (by (try simp only [] at h1); omega); omega) | (intro q h1 h2; (try simp only [] at h1 h2); rcases h2 with h2 | h2 | h2 <;> first | omega | (subst h2; omega)) | (intro q h1 h2; (try simp only [] at h1 h2); rcases h2 with h2 | h2 | h2 | h2 <;> first | omega | (subst h2; omega)))), P.M (by omega), P.cb, P.cf, P.cd, P.cx, P.cl, hltc, ?_, ?_⟩, hst⟩
                · have := hBd
                  simp only [DS.did, List.length_set]
                  exact this
                · simp only [DS.did, List.length_set]; exact P.pl
                · intro j q g h1 h2
                  by_cases hj : j = k.toNat
                  · subst hj
                    rw [hpf] at h1
                    have h2' : (s0.fs.set k.toNat (wrt f.1 p y, f.2))[k.toNat]? = some g := h2
                    rw [List.getElem?_set_self (by omega)] at h2'
                    cases h1; cases h2'
                    exact ⟨(hold _ hpl2).trans hpc, _, _, _, _, _, _, (((gF.ext hx9 (by first | (intros; (try simp only [] at *); omega) | (intro hh; (try simp only [] at hh); omega) | (intro q h1 h2; (try simp only [] at h1 h2); have := hlt q (by omega); omega) | (intro hh; have hh : _ = _ := hh; subst hh; omega) | (intro q h1 h2; have h2 : q = _ := h2; subst h2; (try simp only [] at h1); omega) | (intro q h1 h2; (try simp only [] at h1 h2); omega) | (intro q h1 h2; have h2 : q = _ := h2; have := hlt q (by (try simp only [] at h1); omega); omega) | (intro q h1 h2; (try simp only [] at h1 h2); rcases h2 with h2 | h2 | h2 <;> first | omega | (subst h2; omega)) | (intro q h1 h2; (try simp only [] at h1 h2); rcases h2 with h2 | h2 | h2 | h2 <;> first | omega | (subst h2; omega)))).keep hk12).ext hxd (by first | (intros; (try simp only [] at *); omega) | (intro hh; (try simp only [] at hh); omega) | (intro q h1 h2; (try simp only [] at h1 h2); have := hlt q (by omega); omega) | (intro hh; have hh : _ = _ := hh; subst hh; omega) | (intro q h1 h2; have h2 : q = _ := h2; subst h2; (try simp only [] at h1); omega) | (intro q h1 h2; (try simp only [] at h1 h2); omega) | (intro q h1 h2; have h2 : q = _ := h2; have := hlt q (by (try simp only [] at h1); omega); omega) | (intro q h1 h2; (try simp only [] at h1 h2); rcases h2 with h2 | h2 | h2 <;> first | omega | (subst h2; omega)) | (intro q h1 h2; (try simp only [] at h1 h2); rcases h2 with h2 | h2 | h2 | h2 <;> first | omega | (subst h2; omega)))), (by rw [← hrs]; exact ((((gM1.ext hx9 (by intros; omega) (by first | (intros; (try simp only [] at *); omega) | (intro hh; (try simp only [] at hh); omega) | (intro q h1 h2; (try simp only [] at h1 h2); have := hlt q (by omega); omega) | (intro hh; have hh : _ = _ := hh; subst hh; omega) | (intro q h1 h2; have h2 : q = _ := h2; subst h2; (try simp only [] at h1); omega) | (intro q h1 h2; (try simp only [] at h1 h2); omega) | (intro q h1 h2; have h2 : q = _ := h2; have := hlt q (by (try simp only [] at h1); omega); omega) | (intro q h1 h2; (try simp only [] at h1 h2); rcases h2 with h2 | h2 | h2 <;> first | omega | (subst h2; omega)) | (intro q h1 h2; (try simp only [] at h1 h2); rcases h2 with h2 | h2 | h2 | h2 <;> first | omega | (subst h2; omega)))).keep hk12).ext hxd (by intros; omega) (by first | (intros; (try simp only [] at *); omega) | (intro hh; (try simp only [] at hh); omega) | (intro q h1 h2; (try simp only [] at h1 h2); have := hlt q (by omega); omega) | (intro hh; have hh : _ = _ := hh; subst hh; omega) | (intro q h1 h2; have h2 : q = _ := h2; subst h2; (try simp only [] at h1); omega) | (intro q h1 h2; (try simp only [] at h1 h2); omega) | (intro q h1 h2; have h2 : q = _ := h2; have := hlt q (by (try simp only [] at h1); omega); omega) | (intro q h1 h2; (try simp only [] at h1 h2); rcases h2 with h2 | h2 | h2 <;> first | omega | (subst h2; omega)) | (intro q h1 h2; (try simp only [] at h1 h2); rcases h2 with h2 | h2 | h2 | h2 <;> first | omega | (subst h2; omega))))).mono (fun q hq hS => hS.elim (fun hS => by rw [hold q (hlt q (by omega))]; exact hS) (fun hS => hnew q hS hq))), ((((gM2.ext hx9 (by intros; omega) (by first | (intros; (try simp only [] at *); omega) | (intro hh; (try simp only [] at hh); omega) | (intro q h1 h2; (try simp only [] at h1 h2); have := hlt q (by omega); omega) | (intro hh; have hh : _ = _ := hh; subst hh; omega) | (intro q h1 h2; have h2 : q = _ := h2; subst h2; (try simp only [] at h1); omega) | (intro q h1 h2; (try simp only [] at h1 h2); omega) | (intro q h1 h2; have h2 : q = _ := h2; have := hlt q (by (try simp only [] at h1); omega); omega) | (intro q h1 h2; (try simp only [] at h1 h2); rcases h2 with h2 | h2 | h2 <;> first | omega | (subst h2; omega)) | (intro q h1 h2; (try simp only [] at h1 h2); rcases h2 with h2 | h2 | h2 | h2 <;> first | omega | (subst h2; omega)))).keep hk12).ext hxd (by intros; omega) (by first | (intros; (try simp only [] at *); omega) | (intro hh; (try simp only [] at hh); omega) | (intro q h1 h2; (try simp only [] at h1 h2); have := hlt q (by omega); omega) | (intro hh; have hh : _ = _ := hh; subst hh; omega) | (intro q h1 h2; have h2 : q = _ := h2; subst h2; (try simp only [] at h1); omega) | (intro q h1 h2; (try simp only [] at h1 h2); omega) | (intro q h1 h2; have h2 : q = _ := h2; have := hlt q (by (try simp only [] at h1); omega); omega) | (intro q h1 h2; (try simp only [] at h1 h2); rcases h2 with h2 | h2 | h2 <;> first | omega | (subst h2; omega)) | (intro q h1 h2; (try simp only [] at h1 h2); rcases h2 with h2 | h2 | h2 | h2 <;> first | omega | (subst h2; omega)))).mono (fun q hq hS => by rw [hold q (hlt q (by (try simp only [] at hS); omega))]; exact hS))⟩
                  · have h2' : (s0.fs.set k.toNat (wrt f.1 p y, f.2))[j]? = some g := h2
                    rw [List.getElem?_set_ne (fun e => hj e.symm)] at h2'
                    exact P.fl j q g h1 h2' (fun v a1 a2 => by omega)
end Go.Proofs.YtbljooblpfdbiaaGreatDoor
namespace Go.Proofs.YtbljooblpfdbiaaGreatDoor
open Go Go.Proofs.YtbljooblpfdbiaaGreatDoor.X
section
variable {col : Nat → Nat} {w : World} {b : Nat} {s : DS}
theorem writeR_c {lo hi m2 cy : Nat} {Ay : Option Addr} {y : List UInt8} (h : DkR col w b s) (hok : s.Ok) (nm : ByteArray) (a : Int) (ha : -9223372036854775808 ≤ a ∧ a ≤ 9223372036854775807) (hy : Sl KB lo hi w Ay m2 y) (hy0 : ∀ q, lo ≤ q → q < hi → col q = 0 ∧ q < w.heap.size) (hym : m2 ≤ 1000000000) : Ret Tryz.prog 37 #[ptrV b, .string nm, .int .i64 a, .slice Ay m2 cy] w fun r w' => r = .int .i64 (s.write nm a y).1 ∧ ∃ col', DkR col' w' b (s.write nm a y).2 ∧ Stp col w col' w' := let ⟨_, _, _, _, _, _, _, _, h⟩ := h; Write_c nm a w h hok ha hy hy0 hym
end
end Go.Proofs.YtbljooblpfdbiaaGreatDoor
namespace Go.Proofs.YtbljooblpfdbiaaGreatDoor
open Go Go.Proofs.YtbljooblpfdbiaaGreatDoor.X
def curL (l : List CD) (i f : Nat) : List CD := (l.take i).drop f
section
variable {l : List CD} {i f : Nat} {q : CD}
theorem curL_len (h : i ≤ l.length) : (curL l i f).length = i - f := by rw [curL, List.length_drop, List.length_take]; omega
theorem curL_snoc (hq : l[i]? = some q) (hf : f ≤ i) : curL l (i + 1) f = curL l i f ++ [q] := by
  have hl := (List.getElem?_eq_some_iff.1 hq).1
  rw [curL, curL, List.take_add_one, hq, List.drop_append_of_le_length (by rw [List.length_take]; omega)]; rfl
theorem curL_one (hq : l[i]? = some q) : curL l (i + 1) i = [q] := by
  rw [curL_snoc hq (Nat.le_refl _), List.eq_nil_of_length_eq_zero (l := curL l i i) (by rw [curL_len (by have := (List.getElem?_eq_some_iff.1 hq).1; omega)]; omega)]; rfl
theorem curL_z (l : List CD) (f : Nat) : curL l 0 f = [] := by simp [curL]
theorem drop_q (hq : l[i]? = some q) : l.drop i = q :: l.drop (i + 1) := by
  obtain ⟨h, e⟩ := List.getElem?_eq_some_iff.1 hq
  rw [List.drop_eq_getElem_cons h, e]
theorem pg_cut (hq : l[i]? = some q) (hf : f < i) (h : 256 < ((curL l i f).flatMap entB).length + (entB q).length) : pgsF (curL l i f) (l.drop i) = curL l i f :: pgsF [q] (l.drop (i + 1)) := by
  have hne : curL l i f ≠ [] := fun e => by
    have := curL_len (f := f) (Nat.le_of_lt (List.getElem?_eq_some_iff.1 hq).1)
    rw [e] at this; simp at this; omega
  rw [drop_q hq, pgsF, if_pos ⟨hne, h⟩]
theorem pg_on (hq : l[i]? = some q) (hf : f ≤ i) (h : ¬ (f < i ∧ 256 < ((curL l i f).flatMap entB).length + (entB q).length)) : pgsF (curL l i f) (l.drop i) = pgsF (curL l (i + 1) f) (l.drop (i + 1)) := by
  rw [curL_snoc hq hf, drop_q hq, pgsF, if_neg]
  intro h2
  refine h ⟨Nat.lt_of_le_of_ne hf fun e => h2.1 ?_, h2.2⟩
  exact List.eq_nil_of_length_eq_zero (by rw [curL_len (Nat.le_of_lt (List.getElem?_eq_some_iff.1 hq).1)]; omega)
theorem pg_end (hf : f < l.length) : pgsF (curL l l.length f) (l.drop l.length) = [curL l l.length f] := by
  rw [List.drop_length, pgsF, if_neg]
  intro e
  have := curL_len (l := l) (f := f) (Nat.le_refl _)
  rw [e] at this; simp at this; omega
theorem pg_none (hf : l.length ≤ f) : pgsF (curL l l.length f) (l.drop l.length) = [] := by
  rw [List.drop_length, pgsF, if_pos]
  exact List.eq_nil_of_length_eq_zero (by rw [curL_len (Nat.le_refl _)]; omega)
end
set_option maxHeartbeats 4000000 in
set_option maxRecDepth 100000 in
theorem pages_c (A : Option Addr) (n c : Nat) (w : World) : Ret Tryz.prog 49 #[.slice A n c] w fun r w' => r = .func (.func 101) #[] #[.pointer (some ⟨w.heap.size, 0, none⟩)] ∧ Blk w' w.heap.size [.slice A n c] 22 ∧ Keep w w' ∧ w'.heap.size = w.heap.size + 1 := by
  refine X.enter Tryz.func49 rfl Tryz.ntmps49 rfl ?_
  refine X.seq ?_
  refine X.region ?_
  refine X.opE X.wN rfl (X.boxE rfl rfl) ?_
  rintro _ w1 ⟨rfl, hB1, hk1, hz1⟩
  refine X.opw X.wN rfl (X.assign rfl) ?_
  refine X.opsEnd ?_
  refine X.seq ?_
  refine X.region ?_
  refine X.opw X.wN rfl (X.mkFunc rfl) ?_
  refine X.opw X.wN rfl (X.assign rfl) ?_
  refine X.opsEnd ?_
  refine X.ret1 Tryz.func49 Tryz.results49 rfl ?_
  exact ⟨rfl, hB1, hk1, by omega⟩
set_option maxHeartbeats 4000000 in
set_option maxRecDepth 100000 in
theorem pages1_c (yv : Value) (bl : Nat) (U : Nat → Prop) (J : List (List CD) → World → Prop) {lo hi : Nat} {A : Option Addr} {n c : Nat} {l : List CD} (w : World) (hB : Blk w bl [.slice A n c] 22) (hs : Sl KC lo hi w A n l) (hhi : hi ≤ w.heap.size) (hnc : n ≤ c) (hn : n ≤ 100) (hok : Oks l) (hUb : ¬ U bl) (hUs : ∀ k, lo ≤ k → k < hi → ¬ U k)
    (hJ0 : J (pgs l) w) (hJ : ∀ ps w1 w2, J ps w1 → Keep w1 w2 → J ps w2) (hy : ∀ p ps w2 A' n' c', J (p :: ps) w2 → p ∈ pgs l → n' ≤ c' → Sl KC lo hi w2 A' n' p → YC Tryz.prog yv [.slice A' n' c'] w2 fun v w3 => v = .bool true ∧ Ext U w2 w3 ∧ J ps w3) :
    Ret Tryz.prog 101 #[yv, .pointer (some ⟨bl, 0, none⟩)] w fun v w' => v = .tuple #[] ∧ J [] w' ∧ Ext U w w' := by
  have hbl := hB.lt
  obtain ⟨L, hsL, hLl, hLt⟩ := kc_hd hs
  have hsl := hs.len
  have hsb := hs.bound
  refine X.enter Tryz.func101 rfl Tryz.ntmps101 rfl ?_
  refine X.seq ?_
  refine X.region ?_
  refine X.opw X.wN rfl (X.assign rfl) ?_
  refine X.opw X.wN rfl (X.assign rfl) ?_
  refine X.opsEnd ?_
  refine X.seq ?_
  refine X.seq ?_
  refine X.region ?_
  refine X.opw X.wN rfl (X.load1B Tryz.isAgg22 hB rfl rfl) ?_
  refine X.opw X.wN rfl (X.lenSl Tryz.underlying22 rfl) ?_
  refine X.opw X.wN rfl (X.move rfl) ?_
  refine X.opsEnd ?_
  refine X.block ?_
  refine X.loopL (σ := Nat × Nat × Int) (fun s => [(0, yv), (1, .pointer (some ⟨bl, 0, none⟩)), (3, .int .i64 (s.2.1 : Int)), (4, .int .i64 s.2.2), (8, .slice A n c), (9, .int .i64 (n : Int)), (10, .int .i64 (s.1 : Int))]) (fun s w' => s.1 ≤ n ∧ s.2.1 ≤ s.1 ∧ s.2.2 = (((curL l s.1 s.2.1).flatMap entB).length : Int) ∧ (∀ p, p ∈ pgsF (curL l s.1 s.2.1) (l.drop s.1) → p ∈ pgs l) ∧ J (pgsF (curL l s.1 s.2.1) (l.drop s.1)) w' ∧ Blk w' bl [.slice A n c] 22 ∧ Ext U w w') (fun s => n - s.1) (0, 0, 0) ⟨rfl, rfl, rfl, rfl, rfl, rfl, rfl, trivial⟩ ⟨by (try dsimp only); omega, Nat.le_refl _, (by rw [curL_z]; rfl), fun p hp => (by rw [curL_z, List.drop_zero] at hp; exact hp), (by rw [curL_z, List.drop_zero]; exact hJ0), hB, Ext.refl _ _⟩ ?_
  rintro ⟨i, f, z⟩ b w1 ⟨hi, hfi, hz, hpm, hJl, hBl, hE⟩ hback
  dsimp only
  dsimp only at hi hfi hz hpm hJl
  have hE' := hE.size
  have hbz := ents_le (p := curL l i f) (hok.sub fun z hz => List.mem_of_mem_take (List.mem_of_mem_drop hz))
  rw [curL_len (by omega)] at hbz
  refine X.seq ?_
  refine X.region ?_
  refine X.opP X.wN rfl rfl (X.lss rfl rfl) (fun h11 => ?_) (fun h11 => ?_)
  · obtain ⟨x, hx⟩ : ∃ x, L[i]? = some x := ⟨_, List.getElem?_eq_getElem (by omega)⟩
    obtain ⟨q, hq, eq, oq, nq, ht⟩ := hLt _ _ hx
    have hbq := entB_le (hok q (List.mem_of_getElem? hq))
    refine X.opsEnd ?_
    refine X.seq ?_
    refine X.condT rfl ?_
    refine X.skip ?_
    refine X.seq ?_
    refine X.block ?_
    refine X.seq ?_
    refine X.region ?_
    refine X.opw X.wN rfl (X.move (v := .int .i64 _) rfl) ?_
    refine X.opw X.wN rfl (X.idxS (hsL.ext hE (by first | exact hUs | exact hUb | (intro q g1 g2 g3; have g3 : q = _ := g3; omega) | (intro hh; have hh : _ = _ := hh; omega))) Tryz.underlying22 Tryz.sizeOf40 rfl rfl ⟨by omega, by omega⟩) ?_
    refine X.opw X.wN rfl (X.loadSN Tryz.isAgg40 Tryz.sizeOf40 (hsL.ext hE (by first | exact hUs | exact hUb | (intro q g1 g2 g3; have g3 : q = _ := g3; omega) | (intro hh; have hh : _ = _ := hh; omega))) hx rfl (fun _ h => h.1) rfl) ?_
    refine X.opE X.wN rfl (X.allocE Tryz.zeroValue40 rfl) ?_
    rintro _ w1 ⟨rfl, hB1, hk1, hz1⟩
    refine X.opw X.wN rfl (X.assign (v := .int .i64 _) rfl) ?_
    refine X.opE X.wN rfl (X.storeNE Tryz.sizeOf40 hB1 rfl rfl rfl rfl (fun u hu => by simp at hu; rcases hu with rfl | rfl <;> rfl)) ?_
    rintro _ w2 ⟨hB2, hx2, hz2⟩
    refine X.opsEnd ?_
    refine X.seq ?_
    refine X.region ?_
    refine X.opw X.wN rfl (X.loadNB Tryz.isAgg40 Tryz.sizeOf40 hB2 rfl rfl rfl) ?_
    refine X.opE X.wN rfl (X.callE (entry_c (q := q) _ ((ht.ext hE (by first | exact hUs | exact hUb | (intro q g1 g2 g3; have g3 : q = _ := g3; omega) | (intro hh; have hh : _ = _ := hh; omega))).keep (hk1.step hx2 (by intro q g1; have g1 : q = _ := g1; omega))) (by omega) (by rw [eq]; exact oq) eq) Tryz.call102 rfl rfl) ?_
    rintro v3 w3 ⟨hM3, hk3⟩
    have hk3' := hk3.size
    have q4 := hM3.slF KB_flat 0 (fun _ _ => Nat.zero_le _)
    obtain ⟨A4, c4, rfl, hc4, hs4⟩ := q4
    refine X.opw X.wN rfl (X.lenSl Tryz.underlying43 rfl) ?_
    refine X.opw X.wN rfl (X.assign (v := .int .i64 _) rfl) ?_
    refine X.opsEnd ?_
    refine X.seq ?_
    refine X.seq ?_
    refine X.region ?_
    refine X.opw X.wN rfl (X.move (v := .int .i64 _) rfl) ?_
    refine X.opw X.wN rfl (X.move (v := .int .i64 _) rfl) ?_
    refine X.opP X.wN rfl rfl (X.gtr rfl rfl) (fun h20 => ?_) (fun h20 => ?_)
    · refine X.opw X.wN rfl (X.move (v := .bool true) rfl) ?_
      refine X.opw (X.wG rfl rfl rfl) rfl (X.move (v := .int .i64 _) rfl) ?_
      refine X.opw (X.wG rfl rfl rfl) rfl (X.move (v := .int .i64 _) rfl) ?_
      refine X.opw (X.wG rfl rfl rfl) rfl (X.add rfl rfl (X.w_i64 (by omega))) ?_
      refine X.opP (X.wG rfl rfl rfl) rfl rfl (X.gtr rfl rfl) (fun h25 => ?_) (fun h25 => ?_)
      · have hpc := pg_cut (f := f) hq (by omega) (by omega)
        refine X.opw X.wN rfl (X.pickT (v := .bool true) rfl rfl) ?_
        refine X.opsEnd ?_
        refine X.condT rfl ?_
        refine X.seq ?_
        refine X.seq ?_
        refine X.region ?_
        refine X.opw X.wN rfl (X.move rfl) ?_
        refine X.opw X.wN rfl (X.load1B Tryz.isAgg22 (hBl.keep ((hk1.step hx2 (by intro q g1; have g1 : q = _ := g1; omega)).trans hk3)) rfl rfl) ?_
        refine X.opw X.wN rfl (X.move (v := .int .i64 _) rfl) ?_
        refine X.opw X.wN rfl (X.move (v := .int .i64 _) rfl) ?_
        refine X.opw X.wN rfl (X.move (v := .int .i64 _) rfl) ?_
        refine X.opw X.wN rfl (X.cut3E (p := (f : Int)) (q := (i : Int)) (r := (i : Int)) Tryz.underlying22 Tryz.sizeOf40 rfl rfl rfl rfl ⟨by omega, by omega, by omega, by omega⟩) ?_
        refine X.opE X.wN rfl ((hy (curL l i f) (pgsF [q] (l.drop (i + 1))) _ _ _ _ (by have := hJ _ _ _ hJl ((hk1.step hx2 (by intro q g1; have g1 : q = _ := g1; omega)).trans hk3); rw [hpc] at this; exact this) (hpm _ (by rw [hpc]; exact List.mem_cons_self)) (Nat.le_refl _) ((((hs.ext hE (by first | exact hUs | exact hUb | (intro q g1 g2 g3; have g3 : q = _ := g3; omega) | (intro hh; have hh : _ = _ := hh; omega))).keep ((hk1.step hx2 (by intro q g1; have g1 : q = _ := g1; omega)).trans hk3)).take i (by omega)).drop f i (by omega) (Nat.le_refl _))) _ _ _ _ _ _ _ _ _ rfl rfl) ?_
        rintro _ w5 ⟨rfl, hx5, hJn⟩
        have hx5' := hx5.size
        refine X.opw X.wN rfl (X.not_ rfl) ?_
        refine X.opsEnd ?_
        refine X.condB rfl (fun hc34 => ?_) (fun hc34 => ?_)
        · exact absurd hc34 (by decide)
        · refine X.skip ?_
          refine X.region ?_
          refine X.opw X.wN rfl (X.move (v := .int .i64 _) rfl) ?_
          refine X.opw X.wN rfl (X.assign (v := .int .i64 _) rfl) ?_
          refine X.opw X.wN rfl (X.assign rfl) ?_
          refine X.opsEnd ?_
          refine X.region ?_
          refine X.opw X.wN rfl (X.move (v := .int .i64 _) rfl) ?_
          refine X.opw X.wN rfl (X.move (v := .int .i64 _) rfl) ?_
          refine X.opw X.wN rfl (X.add rfl rfl (X.w_i64 (by omega))) ?_
          refine X.opw X.wN rfl (X.assign (v := .int .i64 _) rfl) ?_
          refine X.opsEnd ?_
          refine X.inBlock ?_
          refine X.region ?_
          refine X.opw X.wN rfl (X.add rfl rfl (X.w_i64 (by omega))) ?_
          refine X.opw X.wN rfl (X.move (v := .int .i64 _) rfl) ?_
          refine X.opsEnd ?_
          refine hback (i + 1, i, 0 + ((entB q).length : Int)) _ _ ⟨rfl, rfl, rfl, rfl, rfl, rfl, rfl, trivial⟩ ⟨by (try dsimp only); omega, by (try dsimp only); omega, (by (try dsimp only); rw [curL_one hq]; simp), (by (try dsimp only); rw [curL_one hq]; exact fun p hp => hpm p (by rw [hpc]; exact List.mem_cons_of_mem _ hp)), (by (try dsimp only); rw [curL_one hq]; exact hJn), ((hBl.keep ((hk1.step hx2 (by intro q g1; have g1 : q = _ := g1; omega)).trans hk3)).ext hx5 (by first | exact hUs | exact hUb | (intro q g1 g2 g3; have g3 : q = _ := g3; omega) | (intro hh; have hh : _ = _ := hh; omega))), (Ext.andThen (Ext.andThen (Ext.andThen (Ext.andThen (Ext.andThen (Ext.refl U _) hE (by intro q h1 h2; first | exact (h2 : False).elim | exact h2 | (exfalso; have h2 : q = _ := h2; omega))) hk1 (by intro q h1 h2; first | exact (h2 : False).elim | exact h2 | (exfalso; have h2 : q = _ := h2; omega))) hx2 (by intro q h1 h2; first | exact (h2 : False).elim | exact h2 | (exfalso; have h2 : q = _ := h2; omega))) hk3 (by intro q h1 h2; first | exact (h2 : False).elim | exact h2 | (exfalso; have h2 : q = _ := h2; omega))) hx5 (by intro q h1 h2; first | exact (h2 : False).elim | exact h2 | (exfalso; have h2 : q = _ := h2; omega)))⟩ (by (try dsimp only); omega)
      · have hpo := pg_on (f := f) hq hfi (by rintro ⟨g1, g2⟩; omega)
        refine X.opw X.wN rfl (X.pickT (v := .bool false) rfl rfl) ?_
        refine X.opsEnd ?_
        refine X.condF rfl ?_
        refine X.skip ?_
        refine X.region ?_
        refine X.opw X.wN rfl (X.move (v := .int .i64 _) rfl) ?_
        refine X.opw X.wN rfl (X.move (v := .int .i64 _) rfl) ?_
        refine X.opw X.wN rfl (X.add rfl rfl (X.w_i64 (by omega))) ?_
        refine X.opw X.wN rfl (X.assign (v := .int .i64 _) rfl) ?_
        refine X.opsEnd ?_
        refine X.inBlock ?_
        refine X.region ?_
        refine X.opw X.wN rfl (X.add rfl rfl (X.w_i64 (by omega))) ?_
        refine X.opw X.wN rfl (X.move (v := .int .i64 _) rfl) ?_
        refine X.opsEnd ?_
        refine hback (i + 1, f, z + ((entB q).length : Int)) _ _ ⟨rfl, rfl, rfl, rfl, rfl, rfl, rfl, trivial⟩ ⟨by (try dsimp only); omega, by (try dsimp only); omega, (by (try dsimp only); rw [curL_snoc hq hfi, List.flatMap_append, List.length_append]; simp [hz]), (by (try dsimp only); rw [← hpo]; exact hpm), (by (try dsimp only); rw [← hpo]; exact hJ _ _ _ hJl ((hk1.step hx2 (by intro q g1; have g1 : q = _ := g1; omega)).trans hk3)), (hBl.keep ((hk1.step hx2 (by intro q g1; have g1 : q = _ := g1; omega)).trans hk3)), (Ext.andThen (Ext.andThen (Ext.andThen (Ext.andThen (Ext.refl U _) hE (by intro q h1 h2; first | exact (h2 : False).elim | exact h2 | (exfalso; have h2 : q = _ := h2; omega))) hk1 (by intro q h1 h2; first | exact (h2 : False).elim | exact h2 | (exfalso; have h2 : q = _ := h2; omega))) hx2 (by intro q h1 h2; first | exact (h2 : False).elim | exact h2 | (exfalso; have h2 : q = _ := h2; omega))) hk3 (by intro q h1 h2; first | exact (h2 : False).elim | exact h2 | (exfalso; have h2 : q = _ := h2; omega)))⟩ (by (try dsimp only); omega)
    · have hpo := pg_on (f := f) hq hfi (by rintro ⟨g1, g2⟩; omega)
      refine X.opw X.wN rfl (X.move (v := .bool false) rfl) ?_
      refine X.opS rfl rfl rfl rfl rfl ?_
      refine X.opS rfl rfl rfl rfl rfl ?_
      refine X.opS rfl rfl rfl rfl rfl ?_
      refine X.opS rfl rfl rfl rfl rfl ?_
      refine X.opw X.wN rfl (X.pickF (v := .bool false) rfl rfl) ?_
      refine X.opsEnd ?_
      refine X.condF rfl ?_
      refine X.skip ?_
      refine X.region ?_
      refine X.opw X.wN rfl (X.move (v := .int .i64 _) rfl) ?_
      refine X.opw X.wN rfl (X.move (v := .int .i64 _) rfl) ?_
      refine X.opw X.wN rfl (X.add rfl rfl (X.w_i64 (by omega))) ?_
      refine X.opw X.wN rfl (X.assign (v := .int .i64 _) rfl) ?_
      refine X.opsEnd ?_
      refine X.inBlock ?_
      refine X.region ?_
      refine X.opw X.wN rfl (X.add rfl rfl (X.w_i64 (by omega))) ?_
      refine X.opw X.wN rfl (X.move (v := .int .i64 _) rfl) ?_
      refine X.opsEnd ?_
      refine hback (i + 1, f, z + ((entB q).length : Int)) _ _ ⟨rfl, rfl, rfl, rfl, rfl, rfl, rfl, trivial⟩ ⟨by (try dsimp only); omega, by (try dsimp only); omega, (by (try dsimp only); rw [curL_snoc hq hfi, List.flatMap_append, List.length_append]; simp [hz]), (by (try dsimp only); rw [← hpo]; exact hpm), (by (try dsimp only); rw [← hpo]; exact hJ _ _ _ hJl ((hk1.step hx2 (by intro q g1; have g1 : q = _ := g1; omega)).trans hk3)), (hBl.keep ((hk1.step hx2 (by intro q g1; have g1 : q = _ := g1; omega)).trans hk3)), (Ext.andThen (Ext.andThen (Ext.andThen (Ext.andThen (Ext.refl U _) hE (by intro q h1 h2; first | exact (h2 : False).elim | exact h2 | (exfalso; have h2 : q = _ := h2; omega))) hk1 (by intro q h1 h2; first | exact (h2 : False).elim | exact h2 | (exfalso; have h2 : q = _ := h2; omega))) hx2 (by intro q h1 h2; first | exact (h2 : False).elim | exact h2 | (exfalso; have h2 : q = _ := h2; omega))) hk3 (by intro q h1 h2; first | exact (h2 : False).elim | exact h2 | (exfalso; have h2 : q = _ := h2; omega)))⟩ (by (try dsimp only); omega)
  · refine X.opsEnd ?_
    refine X.seq ?_
    refine X.condF rfl ?_
    refine X.exit rfl ?_
    refine X.seq ?_
    refine X.region ?_
    refine X.opw X.wN rfl (X.move (v := .int .i64 _) rfl) ?_
    refine X.opw X.wN rfl (X.load1B Tryz.isAgg22 hBl rfl rfl) ?_
    refine X.opw X.wN rfl (X.lenSl Tryz.underlying22 rfl) ?_
    refine X.opP X.wN rfl rfl (X.lss rfl rfl) (fun h43 => ?_) (fun h43 => ?_)
    · have hpe : pgsF (curL l i f) (l.drop i) = [curL l i f] := by
        have e : i = l.length := by omega
        rw [e]; exact pg_end (by omega)
      have hin : i = n := by omega
      subst hin
      refine X.opsEnd ?_
      refine X.condT rfl ?_
      refine X.region ?_
      refine X.opw X.wN rfl (X.move rfl) ?_
      refine X.opw X.wN rfl (X.load1B Tryz.isAgg22 hBl rfl rfl) ?_
      refine X.opw X.wN rfl (X.move (v := .int .i64 _) rfl) ?_
      refine X.opw X.wN rfl (X.cutL (m := (f : Int)) Tryz.underlying22 Tryz.sizeOf40 rfl rfl ⟨by omega, by omega⟩) ?_
      refine X.opE X.wN rfl ((hy (curL l i f) [] _ _ _ _ (by have := hJ _ _ _ hJl (Keep.refl _); rw [hpe] at this; exact this) (hpm _ (by rw [hpe]; exact List.mem_singleton_self _)) (by omega) (by have := (hs.ext hE (by first | exact hUs | exact hUb | (intro q g1 g2 g3; have g3 : q = _ := g3; omega) | (intro hh; have hh : _ = _ := hh; omega))).drop f c (by omega) hnc; rw [curL, List.take_of_length_le (by omega)]; exact this)) _ _ _ _ _ _ _ _ _ rfl rfl) ?_
      rintro _ w6 ⟨rfl, hx6, hJn⟩
      have hx6' := hx6.size
      refine X.opsEnd ?_
      refine X.end0 Tryz.func101 Tryz.results101 ?_
      exact ⟨rfl, hJn, (Ext.andThen (Ext.andThen (Ext.refl U _) hE (by intro q h1 h2; first | exact (h2 : False).elim | exact h2 | (exfalso; have h2 : q = _ := h2; omega))) hx6 (by intro q h1 h2; first | exact (h2 : False).elim | exact h2 | (exfalso; have h2 : q = _ := h2; omega)))⟩
    · refine X.opsEnd ?_
      refine X.condF rfl ?_
      refine X.skip ?_
      refine X.end0 Tryz.func101 Tryz.results101 ?_
      have hpn : pgsF (curL l i f) (l.drop i) = [] := by
        have e : i = l.length := by omega
        rw [e]; exact pg_none (by omega)
      rw [hpn] at hJl
      exact ⟨rfl, hJ _ _ _ hJl (Keep.refl _), (Ext.andThen (Ext.refl U _) hE (by intro q h1 h2; first | exact (h2 : False).elim | exact h2 | (exfalso; have h2 : q = _ := h2; omega)))⟩
end Go.Proofs.YtbljooblpfdbiaaGreatDoor
namespace Go.Proofs.YtbljooblpfdbiaaGreatDoor
open Go Go.Proofs.YtbljooblpfdbiaaGreatDoor.X
structure R2 (tb base m1 m2 : Nat) (S1 S2 : Nat → Prop) (w : World) (va vb : Value) (la lb : List UInt8) : Prop where
  a : Mine KB tb S1 0 0 w va la
  e : Mine KB tb S2 0 0 w vb lb
  s1 : ∀ k, S1 k → base ≤ k ∧ k < m1
  s2 : ∀ k, S2 k → base ≤ k ∧ k < m2
  l1 : m1 ≤ w.heap.size
  l2 : m2 ≤ w.heap.size
  d12 : ∀ k, S1 k → ¬ S2 k
  b : base ≤ w.heap.size
section
variable {tb base m1 m2 : Nat} {S1 S2 : Nat → Prop} {w w' : World} {va vb : Value} {la lb : List UInt8}
theorem R2.nil (tb base m : Nat) (w : World) (hb : base ≤ w.heap.size) (hm : m ≤ w.heap.size) : R2 tb base m m (fun _ => False) (fun _ => False) w (.slice none 0 0) (.slice none 0 0) [] [] :=
  ⟨Mine.nil _ _ _ _ _ _, Mine.nil _ _ _ _ _ _, fun _ h => h.elim, fun _ h => h.elim, hm, hm, fun _ h => h.elim, hb⟩
theorem R2.keep (h : R2 tb base m1 m2 S1 S2 w va vb la lb) (x : Keep w w') : R2 tb base m1 m2 S1 S2 w' va vb la lb := by
  obtain ⟨a, e, s1, s2, l1, l2, d12, b⟩ := h
  have hz := x.size
  exact ⟨a.keep x, e.keep x, s1, s2, by omega, by omega, d12, by omega⟩
theorem R2.ext (h : R2 tb base m1 m2 S1 S2 w va vb la lb) {T : Nat → Prop} (x : Ext T w w') (hT : ∀ k, T k → k < base ∨ (m1 ≤ k ∧ m2 ≤ k)) : R2 tb base m1 m2 S1 S2 w' va vb la lb := by
  obtain ⟨a, e, s1, s2, l1, l2, d12, b⟩ := h
  have hz := x.size
  refine ⟨a.ext x (by intro k h1 h2; omega) ?_, e.ext x (by intro k h1 h2; omega) ?_, s1, s2, by omega, by omega, d12, by omega⟩
  · intro k h1 h2; have := s1 k h1; have := hT k h2; omega
  · intro k h1 h2; have := s2 k h1; have := hT k h2; omega
theorem R2.all (h : R2 tb base m1 m2 S1 S2 w va vb la lb) : R2 tb base w.heap.size w.heap.size S1 S2 w va vb la lb := by
  obtain ⟨a, e, s1, s2, l1, l2, d12, b⟩ := h
  exact ⟨a, e, fun k h => by have := s1 k h; omega, fun k h => by have := s2 k h; omega, Nat.le_refl _, Nat.le_refl _, d12, b⟩
theorem R2.rd (h : R2 tb base m1 m2 S1 S2 w va vb la lb) : ∃ A1 c1 A2 c2, va = .slice A1 la.length c1 ∧ vb = .slice A2 lb.length c2 ∧ la.length ≤ c1 ∧ lb.length ≤ c2 ∧ Sl KB base m1 w A1 la.length la ∧ Sl KB base m2 w A2 lb.length lb := by
  obtain ⟨a, e, s1, s2, _⟩ := h
  obtain ⟨A1, c1, e1, g1, r1⟩ := (a.flat KB_flat (lo' := base) (hi' := m1)).sl (fun k _ h => s1 k h)
  obtain ⟨A2, c2, e2, g2, r2⟩ := (e.flat KB_flat (lo' := base) (hi' := m2)).sl (fun k _ h => s2 k h)
  exact ⟨A1, c1, A2, c2, e1, e2, g1, g2, r1, r2⟩
variable {P : Program} {ρ : Operand → Value} {dst : Option Tmp} {ty : TypeId} {pos : String} {aft : Array Edge} {g : Option (Nat × Bool)} {T : TypeId} {s x : Operand} {A : Option Addr} {n c lo hi bytes : Nat}
theorem R2.appA {ys : List UInt8} (h : R2 tb base m1 m2 S1 S2 w va vb la lb) (hS : Sl KB lo hi w A n ys) (hT : P.underlying T = some (.slice tb)) (hI : ElemInfo P tb 1 bytes) (hs : ρ s = va) (hx : ρ x = .slice A n c) (hmax : (la.length + ys.length) * bytes ≤ 140737488355328) :
    DoesE P ⟨dst, .call ⟨.builtin .append, #[s, x], #[T, T]⟩, ty, pos, aft, g⟩ ρ w fun v' w' => ∃ A' c' S', v' = .slice A' (la ++ ys).length c' ∧ R2 tb base w'.heap.size m2 S' S2 w' v' vb (la ++ ys) lb ∧ Ext (fun k => base ≤ k ∧ k < m1) w w' := by
  obtain ⟨a, e, s1, s2, l1, l2, d12, b⟩ := h
  refine (appRow (K := KB) KB_flat hT hI hs hx a (fun k hk => by have := s1 k hk; omega) hS hmax).mono fun v' w' ⟨h1, h2⟩ => ?_
  have hz := h2.size
  obtain ⟨A', c', e1, _⟩ := h1.slice
  refine ⟨A', c', _, e1, ⟨h1, e.ext h2 (by intro k h1 h2; omega) (fun k h3 h4 => d12 k h4 h3), ?_, s2, Nat.le_refl _, by omega, ?_, by omega⟩, h2.mono fun k _ hk => s1 k hk⟩
  · rintro k (h | ⟨h, h'⟩)
    · have := s1 k h; omega
    · omega
  · rintro k (h | ⟨h, h'⟩) h3
    · exact d12 k h h3
    · have := s2 k h3; omega
theorem R2.appB {ys : List UInt8} (h : R2 tb base m1 m2 S1 S2 w va vb la lb) (hS : Sl KB lo hi w A n ys) (hT : P.underlying T = some (.slice tb)) (hI : ElemInfo P tb 1 bytes) (hs : ρ s = vb) (hx : ρ x = .slice A n c) (hmax : (lb.length + ys.length) * bytes ≤ 140737488355328) :
    DoesE P ⟨dst, .call ⟨.builtin .append, #[s, x], #[T, T]⟩, ty, pos, aft, g⟩ ρ w fun v' w' => ∃ A' c' S', v' = .slice A' (lb ++ ys).length c' ∧ R2 tb base m1 w'.heap.size S1 S' w' va v' la (lb ++ ys) ∧ Ext (fun k => base ≤ k ∧ k < m2) w w' := by
  obtain ⟨a, e, s1, s2, l1, l2, d12, b⟩ := h
  refine (appRow (K := KB) KB_flat hT hI hs hx e (fun k hk => by have := s2 k hk; omega) hS hmax).mono fun v' w' ⟨h1, h2⟩ => ?_
  have hz := h2.size
  obtain ⟨A', c', e1, _⟩ := h1.slice
  refine ⟨A', c', _, e1, ⟨a.ext h2 (by intro k h1 h2; omega) (fun k h3 h4 => d12 k h3 h4), h1, s1, ?_, by omega, Nat.le_refl _, ?_, by omega⟩, h2.mono fun k _ hk => s2 k hk⟩
  · rintro k (h | ⟨h, h'⟩)
    · have := s2 k h; omega
    · omega
  · rintro k h3 (h | ⟨h, h'⟩)
    · exact d12 k h3 h
    · have := s1 k h3; omega
end
theorem low4_len (k : Nat) : (low4 k).length = 4 := rfl
theorem kv_head {l : List CD} {x : CT} {q : CD} (h : l[0]? = some q) : headT l = q.1 := by
  cases l with
  | nil => cases h
  | cons y l => cases h; rfl
theorem shrI (a k : Nat) (hk : k ≤ 32) : ((a : Nat) : Int).fdiv (2 ^ (min ((k : Int)).toNat IntKind.i64.bits)) = ((a / 2 ^ k : Nat) : Int) := by
  have h : min ((k : Int)).toNat IntKind.i64.bits = k := by show min ((k : Int)).toNat 64 = k; omega
  have e : (2 : Int) ^ k = ((2 ^ k : Nat) : Int) := by rw [Int.natCast_pow]; rfl
  rw [h, e, Int.fdiv_eq_ediv_of_nonneg _ (Int.natCast_nonneg _)]
  rfl
theorem tail_0 (x : Nat) : IntKind.u8.wrap (x : Int) = ((UInt8.ofNat x).toNat : Int) := by
  rw [show IntKind.u8.wrap (x : Int) = (x : Int) % 256 from rfl]
  rw [UInt8.toNat_ofNat']; omega
theorem tail_at (x j : Nat) : IntKind.u8.wrap ((x / 2 ^ j : Nat) : Int) = ((UInt8.ofNat (x / 2 ^ j)).toNat : Int) := by
  rw [show IntKind.u8.wrap ((x / 2 ^ j : Nat) : Int) = ((x / 2 ^ j : Nat) : Int) % 256 from rfl]
  rw [UInt8.toNat_ofNat']; omega
set_option maxHeartbeats 4000000 in
set_option maxRecDepth 100000 in
theorem Bytes_c {lo hi : Nat} {A : Option Addr} {n c : Nat} {l : List CD} (w : World) (hs : Sl KC lo hi w A n l) (hhi : hi ≤ w.heap.size) (hnc : n ≤ c) (hn : n ≤ 100) (hok : Oks l) (hTb : TabOk w) : Ret Tryz.prog 18 #[.slice A n c] w fun r w' => ∃ v, r = .tuple #[v, .int .i64 (if isR l then 0 else 70)] ∧ FreshB w w' v (if isR l then runB l else []) := by
  obtain ⟨L, hsL, hLl, hLt⟩ := kc_hd hs
  have hsl := hs.len
  have hsb := hs.bound
  subst hsl
  have htl := hTb.lt
  refine X.enter Tryz.func18 rfl Tryz.ntmps18 rfl ?_
  refine X.seq ?_
  refine X.region ?_
  refine X.opw X.wN rfl (X.assign rfl) ?_
  refine X.opw X.wN rfl (X.assign rfl) ?_
  refine X.opsEnd ?_
  refine X.seq ?_
  refine X.seq ?_
  refine X.region ?_
  refine X.opw X.wN rfl (X.move (v := .slice _ _ _) rfl) ?_
  refine X.opE X.wN rfl (X.callE (rCheck_c _ hs (by omega)) Tryz.call21 rfl rfl) ?_
  rintro _ w1 ⟨rfl, hk1⟩
  have hk1' := hk1.size
  refine X.opw X.wN rfl (X.assign (v := .int .i64 _) rfl) ?_
  refine X.opsEnd ?_
  refine X.seq ?_
  refine X.region ?_
  refine X.opw X.wN rfl (X.move (v := .int .i64 _) rfl) ?_
  refine X.opP X.wN rfl rfl (X.neI rfl rfl) (fun h18 => ?_) (fun h18 => ?_)
  · have hr : isR l = false := by
      cases hq : isR l with
      | false => rfl
      | true => rw [hq] at h18; exact absurd rfl h18
    refine X.opsEnd ?_
    refine X.condT rfl ?_
    refine X.seq ?_
    refine X.region ?_
    refine X.opw X.wN rfl (X.move (v := .int .i64 _) rfl) ?_
    refine X.opw X.wN rfl (X.assign rfl) ?_
    refine X.opw X.wN rfl (X.assign (v := .int .i64 _) rfl) ?_
    refine X.opsEnd ?_
    refine X.ret2 (v2 := (.int .i64 _)) Tryz.func18 Tryz.results18 rfl rfl ?_
    rw [hr]
    exact ⟨_, rfl, Mine.nil _ _ _ _ _ _, hk1⟩
  · have hr : isR l = true := by
      cases hq : isR l with
      | true => rfl
      | false => rw [hq] at h18; exact absurd (by decide : ¬ (70 : Int) = 0) h18
    refine X.opsEnd ?_
    refine X.condF rfl ?_
    refine X.skip ?_
    refine X.seq ?_
    refine X.region ?_
    refine X.opE X.wN rfl (X.allocE Tryz.zeroValue43 rfl) ?_
    rintro _ w2 ⟨rfl, hB2, hk2, hz2⟩
    refine X.opE X.wN rfl (X.allocE Tryz.zeroValue43 rfl) ?_
    rintro _ w3 ⟨rfl, hB3, hk3, hz3⟩
    refine X.opsEnd ?_
    refine X.seq ?_
    refine X.region ?_
    refine X.opE X.wN rfl (X.allocE Tryz.zeroValue3 rfl) ?_
    rintro _ w4 ⟨rfl, hB4, hk4, hz4⟩
    refine X.opE X.wN rfl (X.storeE Tryz.sizeOf3 hB4 rfl rfl rfl rfl) ?_
    rintro _ w5 ⟨hB5, hx5, hz5⟩
    refine X.opsEnd ?_
    refine X.seq ?_
    refine X.seq ?_
    refine X.region ?_
    refine X.opw X.wN rfl (X.move (v := .slice _ _ _) rfl) ?_
    refine X.opE X.wN rfl (X.callE (pages_c _ _ _ _) Tryz.call49 rfl rfl) ?_
    rintro _ w6 ⟨rfl, hB6, hk6, hz6⟩
    refine X.opsEnd ?_
    refine X.block ?_
    refine X.rangeFunc' (cap := [.pointer (some ⟨w5.heap.size, 0, none⟩)]) (Q := fun w' => ∃ vb vl S1 S2, ∃ done : List (List CD), done = pgs l ∧ Blk w' w1.heap.size [vb] 43 ∧ Blk w' w2.heap.size [vl] 43 ∧ Blk w' w3.heap.size [.int .i64 (done.length : Int)] 3 ∧ R2 5 (w6.heap.size + 2) w'.heap.size w'.heap.size S1 S2 w' vb vl (done.flatMap pageB) (done.flatMap leafB) ∧ w'.heap[w6.heap.size]? = some (.deferred (some [])) ∧ Ext (fun k => w.heap.size ≤ k) w w' ∧ (w6.heap.size + 2) ≤ w'.heap.size) rfl Tryz.call101 rfl rfl (fun rec wq T0 hr1 hr2 hr3 hr4 hrT hr5 hr6 hr7 hrl hrd kq zq => ?_) ?_
    · have zq' : wq.heap.size = w6.heap.size + 2 := zq
      refine (pages1_c _ w5.heap.size (fun k => w.heap.size ≤ k ∧ k ≠ w5.heap.size) (fun ps w' => ∃ vb vl S1 S2, ∃ done : List (List CD), done ++ ps = pgs l ∧ Blk w' w1.heap.size [vb] 43 ∧ Blk w' w2.heap.size [vl] 43 ∧ Blk w' w3.heap.size [.int .i64 (done.length : Int)] 3 ∧ R2 5 (w6.heap.size + 2) w'.heap.size w'.heap.size S1 S2 w' vb vl (done.flatMap pageB) (done.flatMap leafB) ∧ w'.heap[(w6.heap.size + 1)]? = some (.loop rec) ∧ w'.heap[w6.heap.size]? = some (.deferred (some [])) ∧ Ext (fun k => w.heap.size ≤ k) w w' ∧ (w6.heap.size + 2) ≤ w'.heap.size) wq (hB6.keep kq) ((hs.keep (((((hk1.trans hk2).trans hk3).trans hk4).step hx5 (by intros; (try simp only [] at *); omega)).trans hk6)).keep kq) (by omega) hnc hn hok (fun h => h.2 rfl) (fun k h1 h2 h3 => by have h3 : _ ≤ k ∧ _ := h3; omega) ?_ ?_ ?_).mono ?_
      · exact ⟨_, _, _, _, [], rfl, (hB2.keep (((hk3.trans hk4).step hx5 (by intros; (try simp only [] at *); omega)).trans hk6)).keep kq, (hB3.keep ((hk4.step hx5 (by intros; (try simp only [] at *); omega)).trans hk6)).keep kq, (hB5.keep hk6).keep kq, R2.nil _ _ _ _ (by omega) (Nat.le_refl _), hrl, hrd, (((((((hk1.trans hk2).trans hk3).trans hk4).step hx5 (by intros; (try simp only [] at *); omega)).trans hk6)).trans kq).mono (fun _ _ h => h.elim), by omega⟩
      · rintro ps wu wv ⟨vb, vl, S1, S2, done, h1, h2, h3, h4, hR, h5, h6, h7, h8⟩ x
        have hxz := x.size
        exact ⟨vb, vl, S1, S2, done, h1, h2.keep x, h3.keep x, h4.keep x, (hR.keep x).all, (x.keep _ (Array.getElem?_eq_some_iff.1 h5).1 id).trans h5, (x.keep _ (Array.getElem?_eq_some_iff.1 h6).1 id).trans h6, h7.trans x (fun _ _ h => h) (fun _ _ h => h.elim), by omega⟩
      · rintro p ps wu Ap np cp ⟨vb, vl, S1, S2, done, h1, h2, h3, h4, hR, h5, h6, h7, h8⟩ hpm hnp hsp
        have hxu := h7.size
        have hpl := hsp.len
        have hp0 := List.length_pos_iff.2 (pgs_ne hpm)
        have hp1 := pgs_plen hpm
        have hokp : Oks p := hok.sub (pgs_sub hpm)
        have hTu : TabOk wu := hTb.ext h7 (fun h => by have h : _ ≤ _ := h; omega)
        obtain ⟨Lp, hsLp, hLpl, hLpt⟩ := kc_hd hsp
        have hsLl := hsLp.len
        obtain ⟨x, hx⟩ : ∃ x, Lp[0]? = some x := ⟨_, List.getElem?_eq_getElem (by omega)⟩
        obtain ⟨q, hq, eq, oq, nq, ht⟩ := hLpt _ _ hx
        have hqT := isR_T' hr q (pgs_sub hpm q (List.mem_of_getElem? hq))
        have hqk := (tup_le (hokp q (List.mem_of_getElem? hq)).2 hqT.1).2
        have hpb := pageB_le hokp (by omega)
        have hlb := leafB_le hokp (fun z hz => (isR_T' hr z (pgs_sub hpm z hz)).1) (by omega)
        obtain ⟨z1, z2, z3, z4⟩ := run_sizes hok hr (by omega)
        have hd1 : (done.flatMap pageB).length ≤ 222000 := by rw [← h1] at z1; simp only [List.flatMap_append, List.length_append] at z1; omega
        have hd2 : (done.flatMap leafB).length ≤ 420000 := by rw [← h1] at z2; simp only [List.flatMap_append, List.length_append] at z2; omega
        have hd3 : done.length ≤ 100 := by have := pgs_len l; rw [← h1, List.length_append] at this; omega
        have hn1 := numB_le (k := (pageB p).length) (by omega)
        have hn2 := textB_len (l := keyB q.1) (by omega)
        have hkT : (if isT q.1 = true then keyB q.1 else []) = keyB q.1 := if_pos hqT.1
        refine YC.round (r := rec) (N := 78) h5 (by rw [hr5]; rfl) (by rw [hr5, hr4, fold1]; exact hrT.put 22 _ (by decide)) ?_
        rw [hr3, hr6, hr7]
        refine X.region ?_
        refine X.opw X.wN rfl (X.assign rfl) ?_
        refine X.opsEnd ?_
        refine X.beginRound' (r := rec) h5 hr1 (fun wb hLb hxb hzb => ?_)
        have hxb' := hxb.size
        refine X.block ?_
        refine X.seq ?_
        refine X.region ?_
        refine X.opw X.wN rfl (X.move rfl) ?_
        refine X.opE X.wN rfl (X.callE (sealed_c _ (hsp.ext hxb (by first | (intro q g1 g2 g3; first | (have g3 : q = _ := g3; omega) | (have g3 : _ ≤ q ∧ _ := g3; omega) | (have g3 : _ ≤ q := g3; omega)) | (intro hh; first | (have hh : _ = _ := hh; omega) | (have hh : _ ≤ _ ∧ _ := hh; omega) | (have hh : _ ≤ _ := hh; omega)) | (intro q g1; first | (have g1 : q = _ := g1; omega) | (have g1 : _ ≤ q ∧ _ := g1; omega) | (have g1 : _ ≤ q := g1; omega)) | (intro q g1 g2; first | (have g2 : q = _ := g2; omega) | (have g2 : _ ≤ q ∧ _ := g2; omega) | (have g2 : _ ≤ q := g2; omega)))) (by omega) (by omega) hokp hnp (hTu.ext hxb (by first | (intro q g1 g2 g3; first | (have g3 : q = _ := g3; omega) | (have g3 : _ ≤ q ∧ _ := g3; omega) | (have g3 : _ ≤ q := g3; omega)) | (intro hh; first | (have hh : _ = _ := hh; omega) | (have hh : _ ≤ _ ∧ _ := hh; omega) | (have hh : _ ≤ _ := hh; omega)) | (intro q g1; first | (have g1 : q = _ := g1; omega) | (have g1 : _ ≤ q ∧ _ := g1; omega) | (have g1 : _ ≤ q := g1; omega)) | (intro q g1 g2; first | (have g2 : q = _ := g2; omega) | (have g2 : _ ≤ q ∧ _ := g2; omega) | (have g2 : _ ≤ q := g2; omega))))) Tryz.call50 rfl rfl) ?_
        rintro v7 w7 ⟨hM7, hk7⟩
        have hk7' := hk7.size
        refine X.opw X.wN rfl (X.assign rfl) ?_
        refine X.opsEnd ?_
        refine X.seq ?_
        refine X.region ?_
        refine X.opw X.wN rfl (X.move rfl) ?_
        refine X.opw X.wN rfl (X.idxS ((hsLp.ext hxb (by first | (intro q g1 g2 g3; first | (have g3 : q = _ := g3; omega) | (have g3 : _ ≤ q ∧ _ := g3; omega) | (have g3 : _ ≤ q := g3; omega)) | (intro hh; first | (have hh : _ = _ := hh; omega) | (have hh : _ ≤ _ ∧ _ := hh; omega) | (have hh : _ ≤ _ := hh; omega)) | (intro q g1; first | (have g1 : q = _ := g1; omega) | (have g1 : _ ≤ q ∧ _ := g1; omega) | (have g1 : _ ≤ q := g1; omega)) | (intro q g1 g2; first | (have g2 : q = _ := g2; omega) | (have g2 : _ ≤ q ∧ _ := g2; omega) | (have g2 : _ ≤ q := g2; omega)))).keep hk7) Tryz.underlying22 Tryz.sizeOf40 rfl rfl ⟨by omega, by omega⟩) ?_
        refine X.opw X.wN rfl (X.fldA Tryz.underlying40 rfl rfl Tryz.sizeOf38) ?_
        refine X.opw X.wN rfl (X.loadSf (o := 0) Tryz.isAgg38 ((hsLp.ext hxb (by first | (intro q g1 g2 g3; first | (have g3 : q = _ := g3; omega) | (have g3 : _ ≤ q ∧ _ := g3; omega) | (have g3 : _ ≤ q := g3; omega)) | (intro hh; first | (have hh : _ = _ := hh; omega) | (have hh : _ ≤ _ ∧ _ := hh; omega) | (have hh : _ ≤ _ := hh; omega)) | (intro q g1; first | (have g1 : q = _ := g1; omega) | (have g1 : _ ≤ q ∧ _ := g1; omega) | (have g1 : _ ≤ q := g1; omega)) | (intro q g1 g2; first | (have g2 : q = _ := g2; omega) | (have g2 : _ ≤ q ∧ _ := g2; omega) | (have g2 : _ ≤ q := g2; omega)))).keep hk7) (j := 0) hx rfl (fun _ h => by rw [h.1]; rfl)) ?_
        refine X.opE X.wN rfl (X.callE (Key_c _ ((ht.ext hxb (by first | (intro q g1 g2 g3; first | (have g3 : q = _ := g3; omega) | (have g3 : _ ≤ q ∧ _ := g3; omega) | (have g3 : _ ≤ q := g3; omega)) | (intro hh; first | (have hh : _ = _ := hh; omega) | (have hh : _ ≤ _ ∧ _ := hh; omega) | (have hh : _ ≤ _ := hh; omega)) | (intro q g1; first | (have g1 : q = _ := g1; omega) | (have g1 : _ ≤ q ∧ _ := g1; omega) | (have g1 : _ ≤ q := g1; omega)) | (intro q g1 g2; first | (have g2 : q = _ := g2; omega) | (have g2 : _ ≤ q ∧ _ := g2; omega) | (have g2 : _ ≤ q := g2; omega)))).keep hk7) (by omega)) Tryz.call51 rfl rfl) ?_
        rintro _ w8 ⟨v8, rfl, hM8, hk8⟩
        rw [hkT] at hM8
        have hk8' := hk8.size
        refine X.opw X.wN rfl (X.move rfl) ?_
        refine X.opw X.wN rfl (X.extr rfl rfl) ?_
        refine X.opw X.wN rfl (X.extr rfl rfl) ?_
        refine X.opw X.wN rfl (X.assign rfl) ?_
        refine X.opw X.wN rfl (X.assign (v := .int .i64 _) rfl) ?_
        refine X.opsEnd ?_
        refine X.seq ?_
        refine X.region ?_
        refine X.opw X.wN rfl (X.load1B Tryz.isAgg43 ((h2.ext hxb (by first | (intro q g1 g2 g3; first | (have g3 : q = _ := g3; omega) | (have g3 : _ ≤ q ∧ _ := g3; omega) | (have g3 : _ ≤ q := g3; omega)) | (intro hh; first | (have hh : _ = _ := hh; omega) | (have hh : _ ≤ _ ∧ _ := hh; omega) | (have hh : _ ≤ _ := hh; omega)) | (intro q g1; first | (have g1 : q = _ := g1; omega) | (have g1 : _ ≤ q ∧ _ := g1; omega) | (have g1 : _ ≤ q := g1; omega)) | (intro q g1 g2; first | (have g2 : q = _ := g2; omega) | (have g2 : _ ≤ q ∧ _ := g2; omega) | (have g2 : _ ≤ q := g2; omega)))).keep (hk7.trans hk8)) rfl rfl) ?_
        refine X.opw X.wN rfl (X.move rfl) ?_
        have q10 := (hM7.keep hk8).slF KB_flat 0 (fun _ _ => Nat.zero_le _)
        obtain ⟨A10, c10, rfl, hc10, hs10⟩ := q10
        refine X.opE X.wN rfl (R2.appA ((hR.ext hxb (by first | (intro q g1 g2 g3; first | (have g3 : q = _ := g3; omega) | (have g3 : _ ≤ q ∧ _ := g3; omega) | (have g3 : _ ≤ q := g3; omega)) | (intro hh; first | (have hh : _ = _ := hh; omega) | (have hh : _ ≤ _ ∧ _ := hh; omega) | (have hh : _ ≤ _ := hh; omega)) | (intro q g1; first | (have g1 : q = _ := g1; omega) | (have g1 : _ ≤ q ∧ _ := g1; omega) | (have g1 : _ ≤ q := g1; omega)) | (intro q g1 g2; first | (have g2 : q = _ := g2; omega) | (have g2 : _ ≤ q ∧ _ := g2; omega) | (have g2 : _ ≤ q := g2; omega)))).keep (hk7.trans hk8)) hs10 Tryz.underlying43 E5 rfl rfl (by first | omega | (simp only [List.length_append, seal_len, List.length_cons, List.length_nil]; omega))) ?_
        rintro _ w9 ⟨Aq9, cq9, S9, rfl, hR9, hx9⟩
        have hx9' := hx9.size
        refine X.opE X.wN rfl (X.storeE Tryz.sizeOf43 (((h2.ext hxb (by first | (intro q g1 g2 g3; first | (have g3 : q = _ := g3; omega) | (have g3 : _ ≤ q ∧ _ := g3; omega) | (have g3 : _ ≤ q := g3; omega)) | (intro hh; first | (have hh : _ = _ := hh; omega) | (have hh : _ ≤ _ ∧ _ := hh; omega) | (have hh : _ ≤ _ := hh; omega)) | (intro q g1; first | (have g1 : q = _ := g1; omega) | (have g1 : _ ≤ q ∧ _ := g1; omega) | (have g1 : _ ≤ q := g1; omega)) | (intro q g1 g2; first | (have g2 : q = _ := g2; omega) | (have g2 : _ ≤ q ∧ _ := g2; omega) | (have g2 : _ ≤ q := g2; omega)))).keep (hk7.trans hk8)).ext hx9 (by first | (intro q g1 g2 g3; first | (have g3 : q = _ := g3; omega) | (have g3 : _ ≤ q ∧ _ := g3; omega) | (have g3 : _ ≤ q := g3; omega)) | (intro hh; first | (have hh : _ = _ := hh; omega) | (have hh : _ ≤ _ ∧ _ := hh; omega) | (have hh : _ ≤ _ := hh; omega)) | (intro q g1; first | (have g1 : q = _ := g1; omega) | (have g1 : _ ≤ q ∧ _ := g1; omega) | (have g1 : _ ≤ q := g1; omega)) | (intro q g1 g2; first | (have g2 : q = _ := g2; omega) | (have g2 : _ ≤ q ∧ _ := g2; omega) | (have g2 : _ ≤ q := g2; omega)))) rfl rfl rfl rfl) ?_
        rintro _ w11 ⟨hB11, hx11, hz11⟩
        refine X.opsEnd ?_
        refine X.seq ?_
        refine X.regionD (fun k => w6.heap.size + 2 ≤ k) 9 (by kernel_rfl) (by kernel_rfl) (fun w12 hk12 hz12 => ?_)
        refine X.dTake 0 rfl (by kernel_rfl) (by kernel_rfl) (by kernel_rfl) (X.dwN rfl) (fun w' hk' => X.load1B Tryz.isAgg43 ((((((h3.ext hxb (by first | (intro q g1 g2 g3; first | (have g3 : q = _ := g3; omega) | (have g3 : _ ≤ q ∧ _ := g3; omega) | (have g3 : _ ≤ q := g3; omega)) | (intro hh; first | (have hh : _ = _ := hh; omega) | (have hh : _ ≤ _ ∧ _ := hh; omega) | (have hh : _ ≤ _ := hh; omega)) | (intro q g1; first | (have g1 : q = _ := g1; omega) | (have g1 : _ ≤ q ∧ _ := g1; omega) | (have g1 : _ ≤ q := g1; omega)) | (intro q g1 g2; first | (have g2 : q = _ := g2; omega) | (have g2 : _ ≤ q ∧ _ := g2; omega) | (have g2 : _ ≤ q := g2; omega)))).keep (hk7.trans hk8)).ext hx9 (by first | (intro q g1 g2 g3; first | (have g3 : q = _ := g3; omega) | (have g3 : _ ≤ q ∧ _ := g3; omega) | (have g3 : _ ≤ q := g3; omega)) | (intro hh; first | (have hh : _ = _ := hh; omega) | (have hh : _ ≤ _ ∧ _ := hh; omega) | (have hh : _ ≤ _ := hh; omega)) | (intro q g1; first | (have g1 : q = _ := g1; omega) | (have g1 : _ ≤ q ∧ _ := g1; omega) | (have g1 : _ ≤ q := g1; omega)) | (intro q g1 g2; first | (have g2 : q = _ := g2; omega) | (have g2 : _ ≤ q ∧ _ := g2; omega) | (have g2 : _ ≤ q := g2; omega)))).ext hx11 (by first | (intro q g1 g2 g3; first | (have g3 : q = _ := g3; omega) | (have g3 : _ ≤ q ∧ _ := g3; omega) | (have g3 : _ ≤ q := g3; omega)) | (intro hh; first | (have hh : _ = _ := hh; omega) | (have hh : _ ≤ _ ∧ _ := hh; omega) | (have hh : _ ≤ _ := hh; omega)) | (intro q g1; first | (have g1 : q = _ := g1; omega) | (have g1 : _ ≤ q ∧ _ := g1; omega) | (have g1 : _ ≤ q := g1; omega)) | (intro q g1 g2; first | (have g2 : q = _ := g2; omega) | (have g2 : _ ≤ q ∧ _ := g2; omega) | (have g2 : _ ≤ q := g2; omega)))).keep hk12).ext hk' (by first | (intro q g1 g2 g3; first | (have g3 : q = _ := g3; omega) | (have g3 : _ ≤ q ∧ _ := g3; omega) | (have g3 : _ ≤ q := g3; omega)) | (intro hh; first | (have hh : _ = _ := hh; omega) | (have hh : _ ≤ _ ∧ _ := hh; omega) | (have hh : _ ≤ _ := hh; omega)) | (intro q g1; first | (have g1 : q = _ := g1; omega) | (have g1 : _ ≤ q ∧ _ := g1; omega) | (have g1 : _ ≤ q := g1; omega)) | (intro q g1 g2; first | (have g2 : q = _ := g2; omega) | (have g2 : _ ≤ q ∧ _ := g2; omega) | (have g2 : _ ≤ q := g2; omega)))) rfl rfl) ?_
        refine X.dTake 1 rfl (by kernel_rfl) (by kernel_rfl) (by kernel_rfl) (X.dwN rfl) (fun w' hk' => X.move rfl) ?_
        refine X.dTake 2 rfl (by kernel_rfl) (by kernel_rfl) (by kernel_rfl) (X.dwN rfl) (fun w' hk' => X.lenSl Tryz.underlying43 rfl) ?_
        refine X.dTake 3 rfl (by kernel_rfl) (by kernel_rfl) (by kernel_rfl) (X.dwN rfl) (fun w' hk' => X.cvI Tryz.underlying3 Tryz.underlying119 rfl (X.w_u64 (by omega))) ?_
        refine X.dTake 6 rfl (by kernel_rfl) (by kernel_rfl) (by kernel_rfl) (X.dwN rfl) (fun w' hk' => X.move rfl) ?_
        refine X.dE (i := 4) (by kernel_rfl) rfl (X.dwN rfl) (X.callE (NumN_c _ (by omega) _) Tryz.call52 rfl rfl) (by rintro v13 w13 ⟨hM13, hk13⟩ _; exact hk13.mono (fun _ _ h => h.elim)) ?_
        rintro v13 w13 ⟨hM13, hk13⟩
        have hk13' := hk13.size
        have q15 := hM13.slF KB_flat 0 (fun _ _ => Nat.zero_le _)
        obtain ⟨A15, c15, rfl, hc15, hs15⟩ := q15
        refine X.dE (i := 5) (by kernel_rfl) rfl (X.dwN rfl) (R2.appB ((hR9.ext hx11 (by first | (intro q g1 g2 g3; first | (have g3 : q = _ := g3; omega) | (have g3 : _ ≤ q ∧ _ := g3; omega) | (have g3 : _ ≤ q := g3; omega)) | (intro hh; first | (have hh : _ = _ := hh; omega) | (have hh : _ ≤ _ ∧ _ := hh; omega) | (have hh : _ ≤ _ := hh; omega)) | (intro q g1; first | (have g1 : q = _ := g1; omega) | (have g1 : _ ≤ q ∧ _ := g1; omega) | (have g1 : _ ≤ q := g1; omega)) | (intro q g1 g2; first | (have g2 : q = _ := g2; omega) | (have g2 : _ ≤ q ∧ _ := g2; omega) | (have g2 : _ ≤ q := g2; omega)))).keep (hk12.trans hk13)) hs15 Tryz.underlying43 E5 rfl rfl (by first | omega | (simp only [List.length_append, seal_len, List.length_cons, List.length_nil]; omega))) (by rintro _ w14 ⟨Aq14, cq14, S14, rfl, hR14, hx14⟩ _; exact hx14.mono (fun k _ h => by (try simp only [] at *); omega)) ?_
        rintro _ w14 ⟨Aq14, cq14, S14, rfl, hR14, hx14⟩
        have hx14' := hx14.size
        have q17 := ((((hM8.ext hx9 (by first | (intro q g1 g2 g3; first | (have g3 : q = _ := g3; omega) | (have g3 : _ ≤ q ∧ _ := g3; omega) | (have g3 : _ ≤ q := g3; omega)) | (intro hh; first | (have hh : _ = _ := hh; omega) | (have hh : _ ≤ _ ∧ _ := hh; omega) | (have hh : _ ≤ _ := hh; omega)) | (intro q g1; first | (have g1 : q = _ := g1; omega) | (have g1 : _ ≤ q ∧ _ := g1; omega) | (have g1 : _ ≤ q := g1; omega)) | (intro q g1 g2; first | (have g2 : q = _ := g2; omega) | (have g2 : _ ≤ q ∧ _ := g2; omega) | (have g2 : _ ≤ q := g2; omega))) (by first | (intro q g1 g2 g3; first | (have g3 : q = _ := g3; omega) | (have g3 : _ ≤ q ∧ _ := g3; omega) | (have g3 : _ ≤ q := g3; omega)) | (intro hh; first | (have hh : _ = _ := hh; omega) | (have hh : _ ≤ _ ∧ _ := hh; omega) | (have hh : _ ≤ _ := hh; omega)) | (intro q g1; first | (have g1 : q = _ := g1; omega) | (have g1 : _ ≤ q ∧ _ := g1; omega) | (have g1 : _ ≤ q := g1; omega)) | (intro q g1 g2; first | (have g2 : q = _ := g2; omega) | (have g2 : _ ≤ q ∧ _ := g2; omega) | (have g2 : _ ≤ q := g2; omega)))).ext hx11 (by first | (intro q g1 g2 g3; first | (have g3 : q = _ := g3; omega) | (have g3 : _ ≤ q ∧ _ := g3; omega) | (have g3 : _ ≤ q := g3; omega)) | (intro hh; first | (have hh : _ = _ := hh; omega) | (have hh : _ ≤ _ ∧ _ := hh; omega) | (have hh : _ ≤ _ := hh; omega)) | (intro q g1; first | (have g1 : q = _ := g1; omega) | (have g1 : _ ≤ q ∧ _ := g1; omega) | (have g1 : _ ≤ q := g1; omega)) | (intro q g1 g2; first | (have g2 : q = _ := g2; omega) | (have g2 : _ ≤ q ∧ _ := g2; omega) | (have g2 : _ ≤ q := g2; omega))) (by first | (intro q g1 g2 g3; first | (have g3 : q = _ := g3; omega) | (have g3 : _ ≤ q ∧ _ := g3; omega) | (have g3 : _ ≤ q := g3; omega)) | (intro hh; first | (have hh : _ = _ := hh; omega) | (have hh : _ ≤ _ ∧ _ := hh; omega) | (have hh : _ ≤ _ := hh; omega)) | (intro q g1; first | (have g1 : q = _ := g1; omega) | (have g1 : _ ≤ q ∧ _ := g1; omega) | (have g1 : _ ≤ q := g1; omega)) | (intro q g1 g2; first | (have g2 : q = _ := g2; omega) | (have g2 : _ ≤ q ∧ _ := g2; omega) | (have g2 : _ ≤ q := g2; omega)))).keep (hk12.trans hk13)).ext hx14 (by first | (intro q g1 g2 g3; first | (have g3 : q = _ := g3; omega) | (have g3 : _ ≤ q ∧ _ := g3; omega) | (have g3 : _ ≤ q := g3; omega)) | (intro hh; first | (have hh : _ = _ := hh; omega) | (have hh : _ ≤ _ ∧ _ := hh; omega) | (have hh : _ ≤ _ := hh; omega)) | (intro q g1; first | (have g1 : q = _ := g1; omega) | (have g1 : _ ≤ q ∧ _ := g1; omega) | (have g1 : _ ≤ q := g1; omega)) | (intro q g1 g2; first | (have g2 : q = _ := g2; omega) | (have g2 : _ ≤ q ∧ _ := g2; omega) | (have g2 : _ ≤ q := g2; omega))) (by first | (intro q g1 g2 g3; first | (have g3 : q = _ := g3; omega) | (have g3 : _ ≤ q ∧ _ := g3; omega) | (have g3 : _ ≤ q := g3; omega)) | (intro hh; first | (have hh : _ = _ := hh; omega) | (have hh : _ ≤ _ ∧ _ := hh; omega) | (have hh : _ ≤ _ := hh; omega)) | (intro q g1; first | (have g1 : q = _ := g1; omega) | (have g1 : _ ≤ q ∧ _ := g1; omega) | (have g1 : _ ≤ q := g1; omega)) | (intro q g1 g2; first | (have g2 : q = _ := g2; omega) | (have g2 : _ ≤ q ∧ _ := g2; omega) | (have g2 : _ ≤ q := g2; omega)))).slF KB_flat 0 (fun _ _ => Nat.zero_le _)
        obtain ⟨A17, c17, rfl, hc17, hs17⟩ := q17
        refine X.dE (i := 7) (by kernel_rfl) rfl (X.dwN rfl) (X.callE (Text_c _ hs17 (by omega)) Tryz.call53 rfl rfl) (by rintro v16 w16 ⟨hM16, hk16⟩ _; exact hk16.mono (fun _ _ h => h.elim)) ?_
        rintro v16 w16 ⟨hM16, hk16⟩
        have hk16' := hk16.size
        have q19 := hM16.slF KB_flat 0 (fun _ _ => Nat.zero_le _)
        obtain ⟨A19, c19, rfl, hc19, hs19⟩ := q19
        refine X.dE (i := 8) (by kernel_rfl) rfl (X.dwN rfl) (R2.appB (hR14.keep hk16) hs19 Tryz.underlying43 E5 rfl rfl (by first | omega | (simp only [List.length_append, seal_len, List.length_cons, List.length_nil]; omega))) (by rintro _ w18 ⟨Aq18, cq18, S18, rfl, hR18, hx18⟩ _; exact hx18.mono (fun k _ h => by (try simp only [] at *); omega)) ?_
        rintro _ w18 ⟨Aq18, cq18, S18, rfl, hR18, hx18⟩
        have hx18' := hx18.size
        refine X.dE (i := 9) (by kernel_rfl) rfl (X.dwN rfl) (X.storeE Tryz.sizeOf43 ((((((((h3.ext hxb (by first | (intro q g1 g2 g3; first | (have g3 : q = _ := g3; omega) | (have g3 : _ ≤ q ∧ _ := g3; omega) | (have g3 : _ ≤ q := g3; omega)) | (intro hh; first | (have hh : _ = _ := hh; omega) | (have hh : _ ≤ _ ∧ _ := hh; omega) | (have hh : _ ≤ _ := hh; omega)) | (intro q g1; first | (have g1 : q = _ := g1; omega) | (have g1 : _ ≤ q ∧ _ := g1; omega) | (have g1 : _ ≤ q := g1; omega)) | (intro q g1 g2; first | (have g2 : q = _ := g2; omega) | (have g2 : _ ≤ q ∧ _ := g2; omega) | (have g2 : _ ≤ q := g2; omega)))).keep (hk7.trans hk8)).ext hx9 (by first | (intro q g1 g2 g3; first | (have g3 : q = _ := g3; omega) | (have g3 : _ ≤ q ∧ _ := g3; omega) | (have g3 : _ ≤ q := g3; omega)) | (intro hh; first | (have hh : _ = _ := hh; omega) | (have hh : _ ≤ _ ∧ _ := hh; omega) | (have hh : _ ≤ _ := hh; omega)) | (intro q g1; first | (have g1 : q = _ := g1; omega) | (have g1 : _ ≤ q ∧ _ := g1; omega) | (have g1 : _ ≤ q := g1; omega)) | (intro q g1 g2; first | (have g2 : q = _ := g2; omega) | (have g2 : _ ≤ q ∧ _ := g2; omega) | (have g2 : _ ≤ q := g2; omega)))).ext hx11 (by first | (intro q g1 g2 g3; first | (have g3 : q = _ := g3; omega) | (have g3 : _ ≤ q ∧ _ := g3; omega) | (have g3 : _ ≤ q := g3; omega)) | (intro hh; first | (have hh : _ = _ := hh; omega) | (have hh : _ ≤ _ ∧ _ := hh; omega) | (have hh : _ ≤ _ := hh; omega)) | (intro q g1; first | (have g1 : q = _ := g1; omega) | (have g1 : _ ≤ q ∧ _ := g1; omega) | (have g1 : _ ≤ q := g1; omega)) | (intro q g1 g2; first | (have g2 : q = _ := g2; omega) | (have g2 : _ ≤ q ∧ _ := g2; omega) | (have g2 : _ ≤ q := g2; omega)))).keep (hk12.trans hk13)).ext hx14 (by first | (intro q g1 g2 g3; first | (have g3 : q = _ := g3; omega) | (have g3 : _ ≤ q ∧ _ := g3; omega) | (have g3 : _ ≤ q := g3; omega)) | (intro hh; first | (have hh : _ = _ := hh; omega) | (have hh : _ ≤ _ ∧ _ := hh; omega) | (have hh : _ ≤ _ := hh; omega)) | (intro q g1; first | (have g1 : q = _ := g1; omega) | (have g1 : _ ≤ q ∧ _ := g1; omega) | (have g1 : _ ≤ q := g1; omega)) | (intro q g1 g2; first | (have g2 : q = _ := g2; omega) | (have g2 : _ ≤ q ∧ _ := g2; omega) | (have g2 : _ ≤ q := g2; omega)))).keep hk16).ext hx18 (by first | (intro q g1 g2 g3; first | (have g3 : q = _ := g3; omega) | (have g3 : _ ≤ q ∧ _ := g3; omega) | (have g3 : _ ≤ q := g3; omega)) | (intro hh; first | (have hh : _ = _ := hh; omega) | (have hh : _ ≤ _ ∧ _ := hh; omega) | (have hh : _ ≤ _ := hh; omega)) | (intro q g1; first | (have g1 : q = _ := g1; omega) | (have g1 : _ ≤ q ∧ _ := g1; omega) | (have g1 : _ ≤ q := g1; omega)) | (intro q g1 g2; first | (have g2 : q = _ := g2; omega) | (have g2 : _ ≤ q ∧ _ := g2; omega) | (have g2 : _ ≤ q := g2; omega)))) rfl rfl rfl rfl) (fun _ _ _ h => absurd h (by decide)) ?_
        rintro _ w20 ⟨hB20, hx20, hz20⟩
        refine X.dEnd (by kernel_rfl) ?_
        refine X.region ?_
        refine X.opw X.wN rfl (X.load1B Tryz.isAgg3 (((((((((h4.ext hxb (by first | (intro q g1 g2 g3; first | (have g3 : q = _ := g3; omega) | (have g3 : _ ≤ q ∧ _ := g3; omega) | (have g3 : _ ≤ q := g3; omega)) | (intro hh; first | (have hh : _ = _ := hh; omega) | (have hh : _ ≤ _ ∧ _ := hh; omega) | (have hh : _ ≤ _ := hh; omega)) | (intro q g1; first | (have g1 : q = _ := g1; omega) | (have g1 : _ ≤ q ∧ _ := g1; omega) | (have g1 : _ ≤ q := g1; omega)) | (intro q g1 g2; first | (have g2 : q = _ := g2; omega) | (have g2 : _ ≤ q ∧ _ := g2; omega) | (have g2 : _ ≤ q := g2; omega)))).keep (hk7.trans hk8)).ext hx9 (by first | (intro q g1 g2 g3; first | (have g3 : q = _ := g3; omega) | (have g3 : _ ≤ q ∧ _ := g3; omega) | (have g3 : _ ≤ q := g3; omega)) | (intro hh; first | (have hh : _ = _ := hh; omega) | (have hh : _ ≤ _ ∧ _ := hh; omega) | (have hh : _ ≤ _ := hh; omega)) | (intro q g1; first | (have g1 : q = _ := g1; omega) | (have g1 : _ ≤ q ∧ _ := g1; omega) | (have g1 : _ ≤ q := g1; omega)) | (intro q g1 g2; first | (have g2 : q = _ := g2; omega) | (have g2 : _ ≤ q ∧ _ := g2; omega) | (have g2 : _ ≤ q := g2; omega)))).ext hx11 (by first | (intro q g1 g2 g3; first | (have g3 : q = _ := g3; omega) | (have g3 : _ ≤ q ∧ _ := g3; omega) | (have g3 : _ ≤ q := g3; omega)) | (intro hh; first | (have hh : _ = _ := hh; omega) | (have hh : _ ≤ _ ∧ _ := hh; omega) | (have hh : _ ≤ _ := hh; omega)) | (intro q g1; first | (have g1 : q = _ := g1; omega) | (have g1 : _ ≤ q ∧ _ := g1; omega) | (have g1 : _ ≤ q := g1; omega)) | (intro q g1 g2; first | (have g2 : q = _ := g2; omega) | (have g2 : _ ≤ q ∧ _ := g2; omega) | (have g2 : _ ≤ q := g2; omega)))).keep (hk12.trans hk13)).ext hx14 (by first | (intro q g1 g2 g3; first | (have g3 : q = _ := g3; omega) | (have g3 : _ ≤ q ∧ _ := g3; omega) | (have g3 : _ ≤ q := g3; omega)) | (intro hh; first | (have hh : _ = _ := hh; omega) | (have hh : _ ≤ _ ∧ _ := hh; omega) | (have hh : _ ≤ _ := hh; omega)) | (intro q g1; first | (have g1 : q = _ := g1; omega) | (have g1 : _ ≤ q ∧ _ := g1; omega) | (have g1 : _ ≤ q := g1; omega)) | (intro q g1 g2; first | (have g2 : q = _ := g2; omega) | (have g2 : _ ≤ q ∧ _ := g2; omega) | (have g2 : _ ≤ q := g2; omega)))).keep hk16).ext hx18 (by first | (intro q g1 g2 g3; first | (have g3 : q = _ := g3; omega) | (have g3 : _ ≤ q ∧ _ := g3; omega) | (have g3 : _ ≤ q := g3; omega)) | (intro hh; first | (have hh : _ = _ := hh; omega) | (have hh : _ ≤ _ ∧ _ := hh; omega) | (have hh : _ ≤ _ := hh; omega)) | (intro q g1; first | (have g1 : q = _ := g1; omega) | (have g1 : _ ≤ q ∧ _ := g1; omega) | (have g1 : _ ≤ q := g1; omega)) | (intro q g1 g2; first | (have g2 : q = _ := g2; omega) | (have g2 : _ ≤ q ∧ _ := g2; omega) | (have g2 : _ ≤ q := g2; omega)))).ext hx20 (by first | (intro q g1 g2 g3; first | (have g3 : q = _ := g3; omega) | (have g3 : _ ≤ q ∧ _ := g3; omega) | (have g3 : _ ≤ q := g3; omega)) | (intro hh; first | (have hh : _ = _ := hh; omega) | (have hh : _ ≤ _ ∧ _ := hh; omega) | (have hh : _ ≤ _ := hh; omega)) | (intro q g1; first | (have g1 : q = _ := g1; omega) | (have g1 : _ ≤ q ∧ _ := g1; omega) | (have g1 : _ ≤ q := g1; omega)) | (intro q g1 g2; first | (have g2 : q = _ := g2; omega) | (have g2 : _ ≤ q ∧ _ := g2; omega) | (have g2 : _ ≤ q := g2; omega)))) rfl rfl) ?_
        refine X.opw X.wN rfl (X.add rfl rfl (X.w_i64 (by omega))) ?_
        refine X.opE X.wN rfl (X.storeE Tryz.sizeOf3 (((((((((h4.ext hxb (by first | (intro q g1 g2 g3; first | (have g3 : q = _ := g3; omega) | (have g3 : _ ≤ q ∧ _ := g3; omega) | (have g3 : _ ≤ q := g3; omega)) | (intro hh; first | (have hh : _ = _ := hh; omega) | (have hh : _ ≤ _ ∧ _ := hh; omega) | (have hh : _ ≤ _ := hh; omega)) | (intro q g1; first | (have g1 : q = _ := g1; omega) | (have g1 : _ ≤ q ∧ _ := g1; omega) | (have g1 : _ ≤ q := g1; omega)) | (intro q g1 g2; first | (have g2 : q = _ := g2; omega) | (have g2 : _ ≤ q ∧ _ := g2; omega) | (have g2 : _ ≤ q := g2; omega)))).keep (hk7.trans hk8)).ext hx9 (by first | (intro q g1 g2 g3; first | (have g3 : q = _ := g3; omega) | (have g3 : _ ≤ q ∧ _ := g3; omega) | (have g3 : _ ≤ q := g3; omega)) | (intro hh; first | (have hh : _ = _ := hh; omega) | (have hh : _ ≤ _ ∧ _ := hh; omega) | (have hh : _ ≤ _ := hh; omega)) | (intro q g1; first | (have g1 : q = _ := g1; omega) | (have g1 : _ ≤ q ∧ _ := g1; omega) | (have g1 : _ ≤ q := g1; omega)) | (intro q g1 g2; first | (have g2 : q = _ := g2; omega) | (have g2 : _ ≤ q ∧ _ := g2; omega) | (have g2 : _ ≤ q := g2; omega)))).ext hx11 (by first | (intro q g1 g2 g3; first | (have g3 : q = _ := g3; omega) | (have g3 : _ ≤ q ∧ _ := g3; omega) | (have g3 : _ ≤ q := g3; omega)) | (intro hh; first | (have hh : _ = _ := hh; omega) | (have hh : _ ≤ _ ∧ _ := hh; omega) | (have hh : _ ≤ _ := hh; omega)) | (intro q g1; first | (have g1 : q = _ := g1; omega) | (have g1 : _ ≤ q ∧ _ := g1; omega) | (have g1 : _ ≤ q := g1; omega)) | (intro q g1 g2; first | (have g2 : q = _ := g2; omega) | (have g2 : _ ≤ q ∧ _ := g2; omega) | (have g2 : _ ≤ q := g2; omega)))).keep (hk12.trans hk13)).ext hx14 (by first | (intro q g1 g2 g3; first | (have g3 : q = _ := g3; omega) | (have g3 : _ ≤ q ∧ _ := g3; omega) | (have g3 : _ ≤ q := g3; omega)) | (intro hh; first | (have hh : _ = _ := hh; omega) | (have hh : _ ≤ _ ∧ _ := hh; omega) | (have hh : _ ≤ _ := hh; omega)) | (intro q g1; first | (have g1 : q = _ := g1; omega) | (have g1 : _ ≤ q ∧ _ := g1; omega) | (have g1 : _ ≤ q := g1; omega)) | (intro q g1 g2; first | (have g2 : q = _ := g2; omega) | (have g2 : _ ≤ q ∧ _ := g2; omega) | (have g2 : _ ≤ q := g2; omega)))).keep hk16).ext hx18 (by first | (intro q g1 g2 g3; first | (have g3 : q = _ := g3; omega) | (have g3 : _ ≤ q ∧ _ := g3; omega) | (have g3 : _ ≤ q := g3; omega)) | (intro hh; first | (have hh : _ = _ := hh; omega) | (have hh : _ ≤ _ ∧ _ := hh; omega) | (have hh : _ ≤ _ := hh; omega)) | (intro q g1; first | (have g1 : q = _ := g1; omega) | (have g1 : _ ≤ q ∧ _ := g1; omega) | (have g1 : _ ≤ q := g1; omega)) | (intro q g1 g2; first | (have g2 : q = _ := g2; omega) | (have g2 : _ ≤ q ∧ _ := g2; omega) | (have g2 : _ ≤ q := g2; omega)))).ext hx20 (by first | (intro q g1 g2 g3; first | (have g3 : q = _ := g3; omega) | (have g3 : _ ≤ q ∧ _ := g3; omega) | (have g3 : _ ≤ q := g3; omega)) | (intro hh; first | (have hh : _ = _ := hh; omega) | (have hh : _ ≤ _ ∧ _ := hh; omega) | (have hh : _ ≤ _ := hh; omega)) | (intro q g1; first | (have g1 : q = _ := g1; omega) | (have g1 : _ ≤ q ∧ _ := g1; omega) | (have g1 : _ ≤ q := g1; omega)) | (intro q g1 g2; first | (have g2 : q = _ := g2; omega) | (have g2 : _ ≤ q ∧ _ := g2; omega) | (have g2 : _ ≤ q := g2; omega)))) rfl rfl rfl rfl) ?_
        rintro _ w21 ⟨hB21, hx21, hz21⟩
        refine X.opsEnd ?_
        refine X.inBlock ?_
        refine X.endRound' (r := rec) ((hx21.keep _ (by omega) (by first | (intro hh; have hh : _ = _ := hh; omega) | (intro hh; have hh : _ ≤ _ ∧ _ := hh; omega) | (intro hh; have hh : _ ≤ _ := hh; omega))).trans ((hx20.keep _ (by omega) (by first | (intro hh; have hh : _ = _ := hh; omega) | (intro hh; have hh : _ ≤ _ ∧ _ := hh; omega) | (intro hh; have hh : _ ≤ _ := hh; omega))).trans ((hx18.keep _ (by omega) (by first | (intro hh; have hh : _ = _ := hh; omega) | (intro hh; have hh : _ ≤ _ ∧ _ := hh; omega) | (intro hh; have hh : _ ≤ _ := hh; omega))).trans ((hk16.keep _ (by omega) id).trans ((hx14.keep _ (by omega) (by first | (intro hh; have hh : _ = _ := hh; omega) | (intro hh; have hh : _ ≤ _ ∧ _ := hh; omega) | (intro hh; have hh : _ ≤ _ := hh; omega))).trans ((hk13.keep _ (by omega) id).trans ((hk12.keep _ (by omega) id).trans ((hx11.keep _ (by omega) (by first | (intro hh; have hh : _ = _ := hh; omega) | (intro hh; have hh : _ ≤ _ ∧ _ := hh; omega) | (intro hh; have hh : _ ≤ _ := hh; omega))).trans ((hx9.keep _ (by omega) (by first | (intro hh; have hh : _ = _ := hh; omega) | (intro hh; have hh : _ ≤ _ ∧ _ := hh; omega) | (intro hh; have hh : _ ≤ _ := hh; omega))).trans ((hk8.keep _ (by omega) id).trans ((hk7.keep _ (by omega) id).trans hLb))))))))))) hr1 hr2 (fun we hLe hxe hze => ?_)
        have hex := (Ext.andThen (Ext.andThen (Ext.andThen (Ext.andThen (Ext.andThen (Ext.andThen (Ext.andThen (Ext.andThen (Ext.andThen (Ext.andThen (Ext.andThen (Ext.andThen (Ext.andThen (Ext.refl (fun k => w.heap.size ≤ k ∧ k ≠ w5.heap.size) _) hxb (by intro k h1 h2; first | exact (h2 : False).elim | (have h2 : k = _ := h2; show _ ∧ _; omega) | (have h2 : _ ≤ k ∧ _ := h2; show _ ∧ _; omega))) hk7 (by intro k h1 h2; first | exact (h2 : False).elim | (have h2 : k = _ := h2; show _ ∧ _; omega) | (have h2 : _ ≤ k ∧ _ := h2; show _ ∧ _; omega))) hk8 (by intro k h1 h2; first | exact (h2 : False).elim | (have h2 : k = _ := h2; show _ ∧ _; omega) | (have h2 : _ ≤ k ∧ _ := h2; show _ ∧ _; omega))) hx9 (by intro k h1 h2; first | exact (h2 : False).elim | (have h2 : k = _ := h2; show _ ∧ _; omega) | (have h2 : _ ≤ k ∧ _ := h2; show _ ∧ _; omega))) hx11 (by intro k h1 h2; first | exact (h2 : False).elim | (have h2 : k = _ := h2; show _ ∧ _; omega) | (have h2 : _ ≤ k ∧ _ := h2; show _ ∧ _; omega))) hk12 (by intro k h1 h2; first | exact (h2 : False).elim | (have h2 : k = _ := h2; show _ ∧ _; omega) | (have h2 : _ ≤ k ∧ _ := h2; show _ ∧ _; omega))) hk13 (by intro k h1 h2; first | exact (h2 : False).elim | (have h2 : k = _ := h2; show _ ∧ _; omega) | (have h2 : _ ≤ k ∧ _ := h2; show _ ∧ _; omega))) hx14 (by intro k h1 h2; first | exact (h2 : False).elim | (have h2 : k = _ := h2; show _ ∧ _; omega) | (have h2 : _ ≤ k ∧ _ := h2; show _ ∧ _; omega))) hk16 (by intro k h1 h2; first | exact (h2 : False).elim | (have h2 : k = _ := h2; show _ ∧ _; omega) | (have h2 : _ ≤ k ∧ _ := h2; show _ ∧ _; omega))) hx18 (by intro k h1 h2; first | exact (h2 : False).elim | (have h2 : k = _ := h2; show _ ∧ _; omega) | (have h2 : _ ≤ k ∧ _ := h2; show _ ∧ _; omega))) hx20 (by intro k h1 h2; first | exact (h2 : False).elim | (have h2 : k = _ := h2; show _ ∧ _; omega) | (have h2 : _ ≤ k ∧ _ := h2; show _ ∧ _; omega))) hx21 (by intro k h1 h2; first | exact (h2 : False).elim | (have h2 : k = _ := h2; show _ ∧ _; omega) | (have h2 : _ ≤ k ∧ _ := h2; show _ ∧ _; omega))) hxe (by intro k h1 h2; first | exact (h2 : False).elim | (have h2 : k = _ := h2; show _ ∧ _; omega) | (have h2 : _ ≤ k ∧ _ := h2; show _ ∧ _; omega)))
        exact ⟨rfl, hex, _, _, _, _, done ++ [p], by rw [← h1]; simp, (((((((hB11.keep (hk12.trans hk13)).ext hx14 (by first | (intro q g1 g2 g3; first | (have g3 : q = _ := g3; omega) | (have g3 : _ ≤ q ∧ _ := g3; omega) | (have g3 : _ ≤ q := g3; omega)) | (intro hh; first | (have hh : _ = _ := hh; omega) | (have hh : _ ≤ _ ∧ _ := hh; omega) | (have hh : _ ≤ _ := hh; omega)) | (intro q g1; first | (have g1 : q = _ := g1; omega) | (have g1 : _ ≤ q ∧ _ := g1; omega) | (have g1 : _ ≤ q := g1; omega)) | (intro q g1 g2; first | (have g2 : q = _ := g2; omega) | (have g2 : _ ≤ q ∧ _ := g2; omega) | (have g2 : _ ≤ q := g2; omega)))).keep hk16).ext hx18 (by first | (intro q g1 g2 g3; first | (have g3 : q = _ := g3; omega) | (have g3 : _ ≤ q ∧ _ := g3; omega) | (have g3 : _ ≤ q := g3; omega)) | (intro hh; first | (have hh : _ = _ := hh; omega) | (have hh : _ ≤ _ ∧ _ := hh; omega) | (have hh : _ ≤ _ := hh; omega)) | (intro q g1; first | (have g1 : q = _ := g1; omega) | (have g1 : _ ≤ q ∧ _ := g1; omega) | (have g1 : _ ≤ q := g1; omega)) | (intro q g1 g2; first | (have g2 : q = _ := g2; omega) | (have g2 : _ ≤ q ∧ _ := g2; omega) | (have g2 : _ ≤ q := g2; omega)))).ext hx20 (by first | (intro q g1 g2 g3; first | (have g3 : q = _ := g3; omega) | (have g3 : _ ≤ q ∧ _ := g3; omega) | (have g3 : _ ≤ q := g3; omega)) | (intro hh; first | (have hh : _ = _ := hh; omega) | (have hh : _ ≤ _ ∧ _ := hh; omega) | (have hh : _ ≤ _ := hh; omega)) | (intro q g1; first | (have g1 : q = _ := g1; omega) | (have g1 : _ ≤ q ∧ _ := g1; omega) | (have g1 : _ ≤ q := g1; omega)) | (intro q g1 g2; first | (have g2 : q = _ := g2; omega) | (have g2 : _ ≤ q ∧ _ := g2; omega) | (have g2 : _ ≤ q := g2; omega)))).ext hx21 (by first | (intro q g1 g2 g3; first | (have g3 : q = _ := g3; omega) | (have g3 : _ ≤ q ∧ _ := g3; omega) | (have g3 : _ ≤ q := g3; omega)) | (intro hh; first | (have hh : _ = _ := hh; omega) | (have hh : _ ≤ _ ∧ _ := hh; omega) | (have hh : _ ≤ _ := hh; omega)) | (intro q g1; first | (have g1 : q = _ := g1; omega) | (have g1 : _ ≤ q ∧ _ := g1; omega) | (have g1 : _ ≤ q := g1; omega)) | (intro q g1 g2; first | (have g2 : q = _ := g2; omega) | (have g2 : _ ≤ q ∧ _ := g2; omega) | (have g2 : _ ≤ q := g2; omega)))).ext hxe (by first | (intro q g1 g2 g3; first | (have g3 : q = _ := g3; omega) | (have g3 : _ ≤ q ∧ _ := g3; omega) | (have g3 : _ ≤ q := g3; omega)) | (intro hh; first | (have hh : _ = _ := hh; omega) | (have hh : _ ≤ _ ∧ _ := hh; omega) | (have hh : _ ≤ _ := hh; omega)) | (intro q g1; first | (have g1 : q = _ := g1; omega) | (have g1 : _ ≤ q ∧ _ := g1; omega) | (have g1 : _ ≤ q := g1; omega)) | (intro q g1 g2; first | (have g2 : q = _ := g2; omega) | (have g2 : _ ≤ q ∧ _ := g2; omega) | (have g2 : _ ≤ q := g2; omega)))), ((hB20.ext hx21 (by first | (intro q g1 g2 g3; first | (have g3 : q = _ := g3; omega) | (have g3 : _ ≤ q ∧ _ := g3; omega) | (have g3 : _ ≤ q := g3; omega)) | (intro hh; first | (have hh : _ = _ := hh; omega) | (have hh : _ ≤ _ ∧ _ := hh; omega) | (have hh : _ ≤ _ := hh; omega)) | (intro q g1; first | (have g1 : q = _ := g1; omega) | (have g1 : _ ≤ q ∧ _ := g1; omega) | (have g1 : _ ≤ q := g1; omega)) | (intro q g1 g2; first | (have g2 : q = _ := g2; omega) | (have g2 : _ ≤ q ∧ _ := g2; omega) | (have g2 : _ ≤ q := g2; omega)))).ext hxe (by first | (intro q g1 g2 g3; first | (have g3 : q = _ := g3; omega) | (have g3 : _ ≤ q ∧ _ := g3; omega) | (have g3 : _ ≤ q := g3; omega)) | (intro hh; first | (have hh : _ = _ := hh; omega) | (have hh : _ ≤ _ ∧ _ := hh; omega) | (have hh : _ ≤ _ := hh; omega)) | (intro q g1; first | (have g1 : q = _ := g1; omega) | (have g1 : _ ≤ q ∧ _ := g1; omega) | (have g1 : _ ≤ q := g1; omega)) | (intro q g1 g2; first | (have g2 : q = _ := g2; omega) | (have g2 : _ ≤ q ∧ _ := g2; omega) | (have g2 : _ ≤ q := g2; omega)))), (by rw [List.length_append, List.length_singleton, Int.natCast_add]; exact (hB21.ext hxe (by first | (intro q g1 g2 g3; first | (have g3 : q = _ := g3; omega) | (have g3 : _ ≤ q ∧ _ := g3; omega) | (have g3 : _ ≤ q := g3; omega)) | (intro hh; first | (have hh : _ = _ := hh; omega) | (have hh : _ ≤ _ ∧ _ := hh; omega) | (have hh : _ ≤ _ := hh; omega)) | (intro q g1; first | (have g1 : q = _ := g1; omega) | (have g1 : _ ≤ q ∧ _ := g1; omega) | (have g1 : _ ≤ q := g1; omega)) | (intro q g1 g2; first | (have g2 : q = _ := g2; omega) | (have g2 : _ ≤ q ∧ _ := g2; omega) | (have g2 : _ ≤ q := g2; omega))))), (by rw [List.flatMap_append, List.flatMap_append, List.flatMap_cons, List.flatMap_cons, List.flatMap_nil, List.flatMap_nil, List.append_nil, List.append_nil, leafB, kv_head (x := x) hq, ← List.append_assoc]; exact (((hR18.ext hx20 (by first | (intro q g1 g2 g3; first | (have g3 : q = _ := g3; omega) | (have g3 : _ ≤ q ∧ _ := g3; omega) | (have g3 : _ ≤ q := g3; omega)) | (intro hh; first | (have hh : _ = _ := hh; omega) | (have hh : _ ≤ _ ∧ _ := hh; omega) | (have hh : _ ≤ _ := hh; omega)) | (intro q g1; first | (have g1 : q = _ := g1; omega) | (have g1 : _ ≤ q ∧ _ := g1; omega) | (have g1 : _ ≤ q := g1; omega)) | (intro q g1 g2; first | (have g2 : q = _ := g2; omega) | (have g2 : _ ≤ q ∧ _ := g2; omega) | (have g2 : _ ≤ q := g2; omega)))).ext hx21 (by first | (intro q g1 g2 g3; first | (have g3 : q = _ := g3; omega) | (have g3 : _ ≤ q ∧ _ := g3; omega) | (have g3 : _ ≤ q := g3; omega)) | (intro hh; first | (have hh : _ = _ := hh; omega) | (have hh : _ ≤ _ ∧ _ := hh; omega) | (have hh : _ ≤ _ := hh; omega)) | (intro q g1; first | (have g1 : q = _ := g1; omega) | (have g1 : _ ≤ q ∧ _ := g1; omega) | (have g1 : _ ≤ q := g1; omega)) | (intro q g1 g2; first | (have g2 : q = _ := g2; omega) | (have g2 : _ ≤ q ∧ _ := g2; omega) | (have g2 : _ ≤ q := g2; omega)))).ext hxe (by first | (intro q g1 g2 g3; first | (have g3 : q = _ := g3; omega) | (have g3 : _ ≤ q ∧ _ := g3; omega) | (have g3 : _ ≤ q := g3; omega)) | (intro hh; first | (have hh : _ = _ := hh; omega) | (have hh : _ ≤ _ ∧ _ := hh; omega) | (have hh : _ ≤ _ := hh; omega)) | (intro q g1; first | (have g1 : q = _ := g1; omega) | (have g1 : _ ≤ q ∧ _ := g1; omega) | (have g1 : _ ≤ q := g1; omega)) | (intro q g1 g2; first | (have g2 : q = _ := g2; omega) | (have g2 : _ ≤ q ∧ _ := g2; omega) | (have g2 : _ ≤ q := g2; omega)))).all), hLe, ((hxe.keep _ (by omega) (by first | (intro hh; have hh : _ = _ := hh; omega) | (intro hh; have hh : _ ≤ _ ∧ _ := hh; omega) | (intro hh; have hh : _ ≤ _ := hh; omega))).trans ((hx21.keep _ (by omega) (by first | (intro hh; have hh : _ = _ := hh; omega) | (intro hh; have hh : _ ≤ _ ∧ _ := hh; omega) | (intro hh; have hh : _ ≤ _ := hh; omega))).trans ((hx20.keep _ (by omega) (by first | (intro hh; have hh : _ = _ := hh; omega) | (intro hh; have hh : _ ≤ _ ∧ _ := hh; omega) | (intro hh; have hh : _ ≤ _ := hh; omega))).trans ((hx18.keep _ (by omega) (by first | (intro hh; have hh : _ = _ := hh; omega) | (intro hh; have hh : _ ≤ _ ∧ _ := hh; omega) | (intro hh; have hh : _ ≤ _ := hh; omega))).trans ((hk16.keep _ (by omega) id).trans ((hx14.keep _ (by omega) (by first | (intro hh; have hh : _ = _ := hh; omega) | (intro hh; have hh : _ ≤ _ ∧ _ := hh; omega) | (intro hh; have hh : _ ≤ _ := hh; omega))).trans ((hk13.keep _ (by omega) id).trans ((hk12.keep _ (by omega) id).trans ((hx11.keep _ (by omega) (by first | (intro hh; have hh : _ = _ := hh; omega) | (intro hh; have hh : _ ≤ _ ∧ _ := hh; omega) | (intro hh; have hh : _ ≤ _ := hh; omega))).trans ((hx9.keep _ (by omega) (by first | (intro hh; have hh : _ = _ := hh; omega) | (intro hh; have hh : _ ≤ _ ∧ _ := hh; omega) | (intro hh; have hh : _ ≤ _ := hh; omega))).trans ((hk8.keep _ (by omega) id).trans ((hk7.keep _ (by omega) id).trans ((hxb.keep _ (by omega) (by first | (intro hh; have hh : _ = _ := hh; omega) | (intro hh; have hh : _ ≤ _ ∧ _ := hh; omega) | (intro hh; have hh : _ ≤ _ := hh; omega))).trans h6))))))))))))), h7.trans hex (fun _ _ h => h) (fun k _ h => h.1), by omega⟩
      · rintro v wz ⟨_, ⟨vb, vl, S1, S2, done, h1, h2, h3, h4, hR, h5, h6, h7, h8⟩, hxq⟩
        rw [List.append_nil] at h1
        exact ⟨⟨rec, h5, by rw [hr1]; simp, hr2⟩, vb, vl, S1, S2, done, h1, h2, h3, h4, hR, h6, h7, h8⟩
    · rintro wz we ⟨vb, vl, S1, S2, done, h1, h2, h3, h4, hR, h6, h7, h8⟩ hxe hze
      subst h1
      obtain ⟨hdf, _⟩ := Array.getElem?_eq_some_iff.1 h6
      have hxz := h7.size
      obtain ⟨z1, z2, z3, z4⟩ := run_sizes hok hr (by omega)
      have z5 := pgs_len l
      have z6 := numB_le (k := (pgs l).length) (by omega)
      have z7 := numB_le (k := l.length) (by omega)
      have hTz : TabOk wz := hTb.ext h7 (fun h => by have h : _ ≤ _ := h; omega)
      have hkz : Keep w wz := h7.mono fun k hk h => by have h : _ ≤ k := h; omega
      refine X.inBlock ?_
      refine X.seq ?_
      refine X.regionD (fun k => w6.heap.size + 2 ≤ k) 11 (by kernel_rfl) (by kernel_rfl) (fun w22 hk22 hz22 => ?_)
      refine X.dTake 0 rfl (by kernel_rfl) (by kernel_rfl) (by kernel_rfl) (X.dwN rfl) (fun w' hk' => X.load1B Tryz.isAgg3 (((h4.ext hxe (by first | (intro q g1 g2 g3; first | (have g3 : q = _ := g3; omega) | (have g3 : _ ≤ q ∧ _ := g3; omega) | (have g3 : _ ≤ q := g3; omega)) | (intro hh; first | (have hh : _ = _ := hh; omega) | (have hh : _ ≤ _ ∧ _ := hh; omega) | (have hh : _ ≤ _ := hh; omega)) | (intro q g1; first | (have g1 : q = _ := g1; omega) | (have g1 : _ ≤ q ∧ _ := g1; omega) | (have g1 : _ ≤ q := g1; omega)) | (intro q g1 g2; first | (have g2 : q = _ := g2; omega) | (have g2 : _ ≤ q ∧ _ := g2; omega) | (have g2 : _ ≤ q := g2; omega)))).keep hk22).ext hk' (by first | (intro q g1 g2 g3; first | (have g3 : q = _ := g3; omega) | (have g3 : _ ≤ q ∧ _ := g3; omega) | (have g3 : _ ≤ q := g3; omega)) | (intro hh; first | (have hh : _ = _ := hh; omega) | (have hh : _ ≤ _ ∧ _ := hh; omega) | (have hh : _ ≤ _ := hh; omega)) | (intro q g1; first | (have g1 : q = _ := g1; omega) | (have g1 : _ ≤ q ∧ _ := g1; omega) | (have g1 : _ ≤ q := g1; omega)) | (intro q g1 g2; first | (have g2 : q = _ := g2; omega) | (have g2 : _ ≤ q ∧ _ := g2; omega) | (have g2 : _ ≤ q := g2; omega)))) rfl rfl) ?_
      refine X.dTake 1 rfl (by kernel_rfl) (by kernel_rfl) (by kernel_rfl) (X.dwN rfl) (fun w' hk' => X.cvI Tryz.underlying3 Tryz.underlying119 rfl (X.w_u64 (by omega))) ?_
      refine X.dTake 3 rfl (by kernel_rfl) (by kernel_rfl) (by kernel_rfl) (X.dwN rfl) (fun w' hk' => X.move rfl) ?_
      refine X.dTake 4 rfl (by kernel_rfl) (by kernel_rfl) (by kernel_rfl) (X.dwN rfl) (fun w' hk' => X.lenSl Tryz.underlying22 rfl) ?_
      refine X.dTake 5 rfl (by kernel_rfl) (by kernel_rfl) (by kernel_rfl) (X.dwN rfl) (fun w' hk' => X.cvI Tryz.underlying3 Tryz.underlying119 rfl (X.w_u64 (by omega))) ?_
      refine X.dTake 8 rfl (by kernel_rfl) (by kernel_rfl) (by kernel_rfl) (X.dwN rfl) (fun w' hk' => X.load1B Tryz.isAgg43 (((h3.ext hxe (by first | (intro q g1 g2 g3; first | (have g3 : q = _ := g3; omega) | (have g3 : _ ≤ q ∧ _ := g3; omega) | (have g3 : _ ≤ q := g3; omega)) | (intro hh; first | (have hh : _ = _ := hh; omega) | (have hh : _ ≤ _ ∧ _ := hh; omega) | (have hh : _ ≤ _ := hh; omega)) | (intro q g1; first | (have g1 : q = _ := g1; omega) | (have g1 : _ ≤ q ∧ _ := g1; omega) | (have g1 : _ ≤ q := g1; omega)) | (intro q g1 g2; first | (have g2 : q = _ := g2; omega) | (have g2 : _ ≤ q ∧ _ := g2; omega) | (have g2 : _ ≤ q := g2; omega)))).keep hk22).ext hk' (by first | (intro q g1 g2 g3; first | (have g3 : q = _ := g3; omega) | (have g3 : _ ≤ q ∧ _ := g3; omega) | (have g3 : _ ≤ q := g3; omega)) | (intro hh; first | (have hh : _ = _ := hh; omega) | (have hh : _ ≤ _ ∧ _ := hh; omega) | (have hh : _ ≤ _ := hh; omega)) | (intro q g1; first | (have g1 : q = _ := g1; omega) | (have g1 : _ ≤ q ∧ _ := g1; omega) | (have g1 : _ ≤ q := g1; omega)) | (intro q g1 g2; first | (have g2 : q = _ := g2; omega) | (have g2 : _ ≤ q ∧ _ := g2; omega) | (have g2 : _ ≤ q := g2; omega)))) rfl rfl) ?_
      obtain ⟨Ar1, cr1, Ar2, cr2, rfl, rfl, hcr1, hcr2, hsr1, hsr2⟩ := ((hR.ext hxe (by first | (intro q g1 g2 g3; first | (have g3 : q = _ := g3; omega) | (have g3 : _ ≤ q ∧ _ := g3; omega) | (have g3 : _ ≤ q := g3; omega)) | (intro hh; first | (have hh : _ = _ := hh; omega) | (have hh : _ ≤ _ ∧ _ := hh; omega) | (have hh : _ ≤ _ := hh; omega)) | (intro q g1; first | (have g1 : q = _ := g1; omega) | (have g1 : _ ≤ q ∧ _ := g1; omega) | (have g1 : _ ≤ q := g1; omega)) | (intro q g1 g2; first | (have g2 : q = _ := g2; omega) | (have g2 : _ ≤ q ∧ _ := g2; omega) | (have g2 : _ ≤ q := g2; omega)))).keep hk22).rd
      refine X.dE (i := 2) (by kernel_rfl) rfl (X.dwN rfl) (X.callE (NumN_c _ (by omega) _) Tryz.call52 rfl rfl) (by rintro v23 w23 ⟨hM23, hk23⟩ _; exact hk23.mono (fun _ _ h => h.elim)) ?_
      rintro v23 w23 ⟨hM23, hk23⟩
      have hk23' := hk23.size
      refine X.dE (i := 6) (by kernel_rfl) rfl (X.dwN rfl) (X.callE (NumN_c _ (by omega) _) Tryz.call52 rfl rfl) (by rintro v24 w24 ⟨hM24, hk24⟩ _; exact hk24.mono (fun _ _ h => h.elim)) ?_
      rintro v24 w24 ⟨hM24, hk24⟩
      have hk24' := hk24.size
      have q25 := hM24.slF KB_flat 0 (fun _ _ => Nat.zero_le _)
      obtain ⟨A25, c25, rfl, hc25, hs25⟩ := q25
      refine X.dE (i := 7) (by kernel_rfl) rfl (X.dwN rfl) (X.appE (K := KB) (S := fun k => we.heap.size ≤ k) KB_flat Tryz.underlying43 E5 rfl rfl (Mine.mono (T := fun k => we.heap.size ≤ k) (hM23.keep hk24) (fun k h1 h2 => by (try simp only [] at *); omega)) hs25 (by (try simp only [List.length_append, List.length_cons, List.length_nil, List.length_take, List.length_drop, List.length_map, List.length_range]); omega) (by intros; (try simp only [] at *); omega)) (by rintro v26 w26 ⟨hM26, hx26⟩ _; exact hx26.mono (fun k _ h => by (try simp only [] at *); omega)) ?_
      rintro v26 w26 ⟨hM26, hx26⟩
      have hx26' := hx26.size
      refine X.dE (i := 9) (by kernel_rfl) rfl (X.dwN rfl) (X.appE (K := KB) (S := fun k => we.heap.size ≤ k) KB_flat Tryz.underlying43 E5 rfl rfl hM26 ((hsr2.keep (hk23.trans hk24)).ext hx26 (by first | (intro q g1 g2 g3; first | (have g3 : q = _ := g3; omega) | (have g3 : _ ≤ q ∧ _ := g3; omega) | (have g3 : _ ≤ q := g3; omega)) | (intro hh; first | (have hh : _ = _ := hh; omega) | (have hh : _ ≤ _ ∧ _ := hh; omega) | (have hh : _ ≤ _ := hh; omega)) | (intro q g1; first | (have g1 : q = _ := g1; omega) | (have g1 : _ ≤ q ∧ _ := g1; omega) | (have g1 : _ ≤ q := g1; omega)) | (intro q g1 g2; first | (have g2 : q = _ := g2; omega) | (have g2 : _ ≤ q ∧ _ := g2; omega) | (have g2 : _ ≤ q := g2; omega)))) (by (try simp only [List.length_append, List.length_cons, List.length_nil, List.length_take, List.length_drop, List.length_map, List.length_range]); omega) (by intros; (try simp only [] at *); omega)) (by rintro v27 w27 ⟨hM27, hx27⟩ _; exact hx27.mono (fun k _ h => by (try simp only [] at *); omega)) ?_
      rintro v27 w27 ⟨hM27, hx27⟩
      have hx27' := hx27.size
      have q29 := hM27.slF KB_flat 0 (fun _ _ => Nat.zero_le _)
      obtain ⟨A29, c29, rfl, hc29, hs29⟩ := q29
      refine X.dE (i := 10) (by kernel_rfl) rfl (X.dwN rfl) (X.callE (Seal_c _ hs29 (by omega) (by first | assumption | exact Nat.le_refl _ | exact (by decide : (4 : Nat) ≤ 4)) (by first | omega | (simp only [List.length_append]; omega)) ((((hTz.ext hxe (by first | (intro q g1 g2 g3; first | (have g3 : q = _ := g3; omega) | (have g3 : _ ≤ q ∧ _ := g3; omega) | (have g3 : _ ≤ q := g3; omega)) | (intro hh; first | (have hh : _ = _ := hh; omega) | (have hh : _ ≤ _ ∧ _ := hh; omega) | (have hh : _ ≤ _ := hh; omega)) | (intro q g1; first | (have g1 : q = _ := g1; omega) | (have g1 : _ ≤ q ∧ _ := g1; omega) | (have g1 : _ ≤ q := g1; omega)) | (intro q g1 g2; first | (have g2 : q = _ := g2; omega) | (have g2 : _ ≤ q ∧ _ := g2; omega) | (have g2 : _ ≤ q := g2; omega)))).keep ((hk22.trans hk23).trans hk24)).ext hx26 (by first | (intro q g1 g2 g3; first | (have g3 : q = _ := g3; omega) | (have g3 : _ ≤ q ∧ _ := g3; omega) | (have g3 : _ ≤ q := g3; omega)) | (intro hh; first | (have hh : _ = _ := hh; omega) | (have hh : _ ≤ _ ∧ _ := hh; omega) | (have hh : _ ≤ _ := hh; omega)) | (intro q g1; first | (have g1 : q = _ := g1; omega) | (have g1 : _ ≤ q ∧ _ := g1; omega) | (have g1 : _ ≤ q := g1; omega)) | (intro q g1 g2; first | (have g2 : q = _ := g2; omega) | (have g2 : _ ≤ q ∧ _ := g2; omega) | (have g2 : _ ≤ q := g2; omega)))).ext hx27 (by first | (intro q g1 g2 g3; first | (have g3 : q = _ := g3; omega) | (have g3 : _ ≤ q ∧ _ := g3; omega) | (have g3 : _ ≤ q := g3; omega)) | (intro hh; first | (have hh : _ = _ := hh; omega) | (have hh : _ ≤ _ ∧ _ := hh; omega) | (have hh : _ ≤ _ := hh; omega)) | (intro q g1; first | (have g1 : q = _ := g1; omega) | (have g1 : _ ≤ q ∧ _ := g1; omega) | (have g1 : _ ≤ q := g1; omega)) | (intro q g1 g2; first | (have g2 : q = _ := g2; omega) | (have g2 : _ ≤ q ∧ _ := g2; omega) | (have g2 : _ ≤ q := g2; omega))))) Tryz.call54 rfl rfl) (by rintro v28 w28 ⟨hM28, hk28⟩ _; exact hk28.mono (fun _ _ h => h.elim)) ?_
      rintro v28 w28 ⟨hM28, hk28⟩
      have hk28' := hk28.size
      refine X.dStep (i := 11) (by kernel_rfl) rfl (X.dwN rfl) (X.assign rfl) (fun h => absurd h (by decide)) ?_
      refine X.dEnd (by kernel_rfl) ?_
      refine X.seq ?_
      refine X.region ?_
      refine X.opw X.wN rfl (X.move rfl) ?_
      have q30 := hM28.slF KB_flat 0 (fun _ _ => Nat.zero_le _)
      obtain ⟨A30, c30, rfl, hc30, hs30⟩ := q30
      refine X.opw X.wN rfl (X.lenSl Tryz.underlying43 rfl) ?_
      refine X.opw X.wN rfl (X.assign (v := .int .i64 _) rfl) ?_
      refine X.opsEnd ?_
      refine X.seq ?_
      refine X.region ?_
      refine X.opw X.wN rfl (X.move (v := .int .i64 _) rfl) ?_
      refine X.opw X.wN rfl (X.cvI Tryz.underlying3 Tryz.underlying5 rfl (tail_0 _)) ?_
      refine X.opw X.wN rfl (X.move (v := .int .i64 _) rfl) ?_
      refine X.opw X.wN rfl (X.shr (c := (((idxB (pgs l) l.length).length / 2 ^ 8 : Nat) : Int)) rfl rfl (by decide) (shrI (idxB (pgs l) l.length).length 8 (by decide))) ?_
      refine X.opw X.wN rfl (X.cvI Tryz.underlying3 Tryz.underlying5 rfl (tail_at _ 8)) ?_
      refine X.opw X.wN rfl (X.move (v := .int .i64 _) rfl) ?_
      refine X.opw X.wN rfl (X.shr (c := (((idxB (pgs l) l.length).length / 2 ^ 16 : Nat) : Int)) rfl rfl (by decide) (shrI (idxB (pgs l) l.length).length 16 (by decide))) ?_
      refine X.opw X.wN rfl (X.cvI Tryz.underlying3 Tryz.underlying5 rfl (tail_at _ 16)) ?_
      refine X.opw X.wN rfl (X.move (v := .int .i64 _) rfl) ?_
      refine X.opw X.wN rfl (X.shr (c := (((idxB (pgs l) l.length).length / 2 ^ 24 : Nat) : Int)) rfl rfl (by decide) (shrI (idxB (pgs l) l.length).length 24 (by decide))) ?_
      refine X.opw X.wN rfl (X.cvI Tryz.underlying3 Tryz.underlying5 rfl (tail_at _ 24)) ?_
      refine X.opE X.wN rfl (X.litKF KB_flat (K := KB) (xs := [Operand.tmp 61, Operand.tmp 64, Operand.tmp 67, Operand.tmp 70]) (vs := [.int .u8 ((UInt8.ofNat (idxB (pgs l) l.length).length).toNat : Int), .int .u8 ((UInt8.ofNat ((idxB (pgs l) l.length).length / 2 ^ 8)).toNat : Int), .int .u8 ((UInt8.ofNat ((idxB (pgs l) l.length).length / 2 ^ 16)).toNat : Int), .int .u8 ((UInt8.ofNat ((idxB (pgs l) l.length).length / 2 ^ 24)).toNat : Int)]) (ys := [UInt8.ofNat (idxB (pgs l) l.length).length, UInt8.ofNat ((idxB (pgs l) l.length).length / 2 ^ 8), UInt8.ofNat ((idxB (pgs l) l.length).length / 2 ^ 16), UInt8.ofNat ((idxB (pgs l) l.length).length / 2 ^ 24)]) Tryz.underlying43 Tryz.sizeOf5 Tryz.zeroValue5 rfl rfl rfl rfl rfl (repsB [UInt8.ofNat (idxB (pgs l) l.length).length, UInt8.ofNat ((idxB (pgs l) l.length).length / 2 ^ 8), UInt8.ofNat ((idxB (pgs l) l.length).length / 2 ^ 16), UInt8.ofNat ((idxB (pgs l) l.length).length / 2 ^ 24)])) ?_
      rintro _ w31 ⟨rfl, hs31, hB31, hk31, hz31⟩
      refine X.opE X.wN rfl (X.callE (Seal_c _ hs31 (by omega) (by first | assumption | exact Nat.le_refl _ | exact (by decide : (4 : Nat) ≤ 4)) (by first | omega | (simp only [List.length_append]; omega)) (((((hTz.ext hxe (by first | (intro q g1 g2 g3; first | (have g3 : q = _ := g3; omega) | (have g3 : _ ≤ q ∧ _ := g3; omega) | (have g3 : _ ≤ q := g3; omega)) | (intro hh; first | (have hh : _ = _ := hh; omega) | (have hh : _ ≤ _ ∧ _ := hh; omega) | (have hh : _ ≤ _ := hh; omega)) | (intro q g1; first | (have g1 : q = _ := g1; omega) | (have g1 : _ ≤ q ∧ _ := g1; omega) | (have g1 : _ ≤ q := g1; omega)) | (intro q g1 g2; first | (have g2 : q = _ := g2; omega) | (have g2 : _ ≤ q ∧ _ := g2; omega) | (have g2 : _ ≤ q := g2; omega)))).keep ((hk22.trans hk23).trans hk24)).ext hx26 (by first | (intro q g1 g2 g3; first | (have g3 : q = _ := g3; omega) | (have g3 : _ ≤ q ∧ _ := g3; omega) | (have g3 : _ ≤ q := g3; omega)) | (intro hh; first | (have hh : _ = _ := hh; omega) | (have hh : _ ≤ _ ∧ _ := hh; omega) | (have hh : _ ≤ _ := hh; omega)) | (intro q g1; first | (have g1 : q = _ := g1; omega) | (have g1 : _ ≤ q ∧ _ := g1; omega) | (have g1 : _ ≤ q := g1; omega)) | (intro q g1 g2; first | (have g2 : q = _ := g2; omega) | (have g2 : _ ≤ q ∧ _ := g2; omega) | (have g2 : _ ≤ q := g2; omega)))).ext hx27 (by first | (intro q g1 g2 g3; first | (have g3 : q = _ := g3; omega) | (have g3 : _ ≤ q ∧ _ := g3; omega) | (have g3 : _ ≤ q := g3; omega)) | (intro hh; first | (have hh : _ = _ := hh; omega) | (have hh : _ ≤ _ ∧ _ := hh; omega) | (have hh : _ ≤ _ := hh; omega)) | (intro q g1; first | (have g1 : q = _ := g1; omega) | (have g1 : _ ≤ q ∧ _ := g1; omega) | (have g1 : _ ≤ q := g1; omega)) | (intro q g1 g2; first | (have g2 : q = _ := g2; omega) | (have g2 : _ ≤ q ∧ _ := g2; omega) | (have g2 : _ ≤ q := g2; omega)))).keep (hk28.trans hk31))) Tryz.call54 rfl rfl) ?_
      rintro v32 w32 ⟨hM32, hk32⟩
      have hk32' := hk32.size
      refine X.opw X.wN rfl (X.assign rfl) ?_
      refine X.opsEnd ?_
      refine X.seq ?_
      refine X.region ?_
      refine X.opw X.wN rfl (X.load1B Tryz.isAgg43 (((((h2.ext hxe (by first | (intro q g1 g2 g3; first | (have g3 : q = _ := g3; omega) | (have g3 : _ ≤ q ∧ _ := g3; omega) | (have g3 : _ ≤ q := g3; omega)) | (intro hh; first | (have hh : _ = _ := hh; omega) | (have hh : _ ≤ _ ∧ _ := hh; omega) | (have hh : _ ≤ _ := hh; omega)) | (intro q g1; first | (have g1 : q = _ := g1; omega) | (have g1 : _ ≤ q ∧ _ := g1; omega) | (have g1 : _ ≤ q := g1; omega)) | (intro q g1 g2; first | (have g2 : q = _ := g2; omega) | (have g2 : _ ≤ q ∧ _ := g2; omega) | (have g2 : _ ≤ q := g2; omega)))).keep ((hk22.trans hk23).trans hk24)).ext hx26 (by first | (intro q g1 g2 g3; first | (have g3 : q = _ := g3; omega) | (have g3 : _ ≤ q ∧ _ := g3; omega) | (have g3 : _ ≤ q := g3; omega)) | (intro hh; first | (have hh : _ = _ := hh; omega) | (have hh : _ ≤ _ ∧ _ := hh; omega) | (have hh : _ ≤ _ := hh; omega)) | (intro q g1; first | (have g1 : q = _ := g1; omega) | (have g1 : _ ≤ q ∧ _ := g1; omega) | (have g1 : _ ≤ q := g1; omega)) | (intro q g1 g2; first | (have g2 : q = _ := g2; omega) | (have g2 : _ ≤ q ∧ _ := g2; omega) | (have g2 : _ ≤ q := g2; omega)))).ext hx27 (by first | (intro q g1 g2 g3; first | (have g3 : q = _ := g3; omega) | (have g3 : _ ≤ q ∧ _ := g3; omega) | (have g3 : _ ≤ q := g3; omega)) | (intro hh; first | (have hh : _ = _ := hh; omega) | (have hh : _ ≤ _ ∧ _ := hh; omega) | (have hh : _ ≤ _ := hh; omega)) | (intro q g1; first | (have g1 : q = _ := g1; omega) | (have g1 : _ ≤ q ∧ _ := g1; omega) | (have g1 : _ ≤ q := g1; omega)) | (intro q g1 g2; first | (have g2 : q = _ := g2; omega) | (have g2 : _ ≤ q ∧ _ := g2; omega) | (have g2 : _ ≤ q := g2; omega)))).keep ((hk28.trans hk31).trans hk32)) rfl rfl) ?_
      refine X.opw X.wN rfl (X.move rfl) ?_
      refine X.opE X.wN rfl (R2.appA (((((hR.ext hxe (by first | (intro q g1 g2 g3; first | (have g3 : q = _ := g3; omega) | (have g3 : _ ≤ q ∧ _ := g3; omega) | (have g3 : _ ≤ q := g3; omega)) | (intro hh; first | (have hh : _ = _ := hh; omega) | (have hh : _ ≤ _ ∧ _ := hh; omega) | (have hh : _ ≤ _ := hh; omega)) | (intro q g1; first | (have g1 : q = _ := g1; omega) | (have g1 : _ ≤ q ∧ _ := g1; omega) | (have g1 : _ ≤ q := g1; omega)) | (intro q g1 g2; first | (have g2 : q = _ := g2; omega) | (have g2 : _ ≤ q ∧ _ := g2; omega) | (have g2 : _ ≤ q := g2; omega)))).keep ((hk22.trans hk23).trans hk24)).ext hx26 (by first | (intro q g1 g2 g3; first | (have g3 : q = _ := g3; omega) | (have g3 : _ ≤ q ∧ _ := g3; omega) | (have g3 : _ ≤ q := g3; omega)) | (intro hh; first | (have hh : _ = _ := hh; omega) | (have hh : _ ≤ _ ∧ _ := hh; omega) | (have hh : _ ≤ _ := hh; omega)) | (intro q g1; first | (have g1 : q = _ := g1; omega) | (have g1 : _ ≤ q ∧ _ := g1; omega) | (have g1 : _ ≤ q := g1; omega)) | (intro q g1 g2; first | (have g2 : q = _ := g2; omega) | (have g2 : _ ≤ q ∧ _ := g2; omega) | (have g2 : _ ≤ q := g2; omega)))).ext hx27 (by first | (intro q g1 g2 g3; first | (have g3 : q = _ := g3; omega) | (have g3 : _ ≤ q ∧ _ := g3; omega) | (have g3 : _ ≤ q := g3; omega)) | (intro hh; first | (have hh : _ = _ := hh; omega) | (have hh : _ ≤ _ ∧ _ := hh; omega) | (have hh : _ ≤ _ := hh; omega)) | (intro q g1; first | (have g1 : q = _ := g1; omega) | (have g1 : _ ≤ q ∧ _ := g1; omega) | (have g1 : _ ≤ q := g1; omega)) | (intro q g1 g2; first | (have g2 : q = _ := g2; omega) | (have g2 : _ ≤ q ∧ _ := g2; omega) | (have g2 : _ ≤ q := g2; omega)))).keep ((hk28.trans hk31).trans hk32)) (hs30.keep (hk31.trans hk32)) Tryz.underlying43 E5 rfl rfl (by first | omega | (simp only [List.length_append, seal_len, List.length_cons, List.length_nil]; omega))) ?_
      rintro _ w33 ⟨Aq33, cq33, S33, rfl, hR33, hx33⟩
      have hx33' := hx33.size
      refine X.opw X.wN rfl (X.move rfl) ?_
      have q35 := (hM32.ext hx33 (by first | (intro q g1 g2 g3; first | (have g3 : q = _ := g3; omega) | (have g3 : _ ≤ q ∧ _ := g3; omega) | (have g3 : _ ≤ q := g3; omega)) | (intro hh; first | (have hh : _ = _ := hh; omega) | (have hh : _ ≤ _ ∧ _ := hh; omega) | (have hh : _ ≤ _ := hh; omega)) | (intro q g1; first | (have g1 : q = _ := g1; omega) | (have g1 : _ ≤ q ∧ _ := g1; omega) | (have g1 : _ ≤ q := g1; omega)) | (intro q g1 g2; first | (have g2 : q = _ := g2; omega) | (have g2 : _ ≤ q ∧ _ := g2; omega) | (have g2 : _ ≤ q := g2; omega))) (by first | (intro q g1 g2 g3; first | (have g3 : q = _ := g3; omega) | (have g3 : _ ≤ q ∧ _ := g3; omega) | (have g3 : _ ≤ q := g3; omega)) | (intro hh; first | (have hh : _ = _ := hh; omega) | (have hh : _ ≤ _ ∧ _ := hh; omega) | (have hh : _ ≤ _ := hh; omega)) | (intro q g1; first | (have g1 : q = _ := g1; omega) | (have g1 : _ ≤ q ∧ _ := g1; omega) | (have g1 : _ ≤ q := g1; omega)) | (intro q g1 g2; first | (have g2 : q = _ := g2; omega) | (have g2 : _ ≤ q ∧ _ := g2; omega) | (have g2 : _ ≤ q := g2; omega)))).slF KB_flat 0 (fun _ _ => Nat.zero_le _)
      obtain ⟨A35, c35, rfl, hc35, hs35⟩ := q35
      refine X.opE X.wN rfl (R2.appA hR33 hs35 Tryz.underlying43 E5 rfl rfl (by first | omega | (simp only [List.length_append, seal_len, List.length_cons, List.length_nil]; omega))) ?_
      rintro _ w34 ⟨Aq34, cq34, S34, rfl, hR34, hx34⟩
      have hx34' := hx34.size
      refine X.opw X.wN rfl (X.assign rfl) ?_
      refine X.opw X.wN rfl (X.assign rfl) ?_
      refine X.opsEnd ?_
      refine X.ret_unw ?_
      refine X.collected' (by simp) ((hx34.keep _ (by omega) (by first | (intro hh; have hh : _ = _ := hh; omega) | (intro hh; have hh : _ ≤ _ ∧ _ := hh; omega) | (intro hh; have hh : _ ≤ _ := hh; omega))).trans ((hx33.keep _ (by omega) (by first | (intro hh; have hh : _ = _ := hh; omega) | (intro hh; have hh : _ ≤ _ ∧ _ := hh; omega) | (intro hh; have hh : _ ≤ _ := hh; omega))).trans ((hk32.keep _ (by omega) id).trans ((hk31.keep _ (by omega) id).trans ((hk28.keep _ (by omega) id).trans ((hx27.keep _ (by omega) (by first | (intro hh; have hh : _ = _ := hh; omega) | (intro hh; have hh : _ ≤ _ ∧ _ := hh; omega) | (intro hh; have hh : _ ≤ _ := hh; omega))).trans ((hx26.keep _ (by omega) (by first | (intro hh; have hh : _ = _ := hh; omega) | (intro hh; have hh : _ ≤ _ ∧ _ := hh; omega) | (intro hh; have hh : _ ≤ _ := hh; omega))).trans ((hk24.keep _ (by omega) id).trans ((hk23.keep _ (by omega) id).trans ((hk22.keep _ (by omega) id).trans ((hxe.keep _ (by omega) (by first | (intro hh; have hh : _ = _ := hh; omega) | (intro hh; have hh : _ ≤ _ ∧ _ := hh; omega) | (intro hh; have hh : _ ≤ _ := hh; omega))).trans h6))))))))))) (fun wf hxf hzf => ?_)
      refine X.unwT2 Tryz.func18 Tryz.results18 rfl rfl ?_
      rw [if_pos hr, if_pos hr]
      have hRf := (hR34.ext hxf (by first | (intro q g1 g2 g3; first | (have g3 : q = _ := g3; omega) | (have g3 : _ ≤ q ∧ _ := g3; omega) | (have g3 : _ ≤ q := g3; omega)) | (intro hh; first | (have hh : _ = _ := hh; omega) | (have hh : _ ≤ _ ∧ _ := hh; omega) | (have hh : _ ≤ _ := hh; omega)) | (intro q g1; first | (have g1 : q = _ := g1; omega) | (have g1 : _ ≤ q ∧ _ := g1; omega) | (have g1 : _ ≤ q := g1; omega)) | (intro q g1 g2; first | (have g2 : q = _ := g2; omega) | (have g2 : _ ≤ q ∧ _ := g2; omega) | (have g2 : _ ≤ q := g2; omega))))
      exact ⟨_, rfl, (hRf.a.mono fun k _ hk => by have := hRf.s1 k hk; omega), ((((((((((((hkz.step hxe (by intro q g1; first | (have g1 : q = _ := g1; omega) | (have g1 : _ ≤ q ∧ _ := g1; omega) | (have g1 : _ ≤ q := g1; omega))).trans hk22).trans hk23).trans hk24).step hx26 (by intro q g1; first | (have g1 : q = _ := g1; omega) | (have g1 : _ ≤ q ∧ _ := g1; omega) | (have g1 : _ ≤ q := g1; omega))).step hx27 (by intro q g1; first | (have g1 : q = _ := g1; omega) | (have g1 : _ ≤ q ∧ _ := g1; omega) | (have g1 : _ ≤ q := g1; omega))).trans hk28).trans hk31).trans hk32).step hx33 (by intro q g1; first | (have g1 : q = _ := g1; omega) | (have g1 : _ ≤ q ∧ _ := g1; omega) | (have g1 : _ ≤ q := g1; omega))).step hx34 (by intro q g1; first | (have g1 : q = _ := g1; omega) | (have g1 : _ ≤ q ∧ _ := g1; omega) | (have g1 : _ ≤ q := g1; omega))).step hxf (by intro q g1; first | (have g1 : q = _ := g1; omega) | (have g1 : _ ≤ q ∧ _ := g1; omega) | (have g1 : _ ≤ q := g1; omega)))⟩
end Go.Proofs.YtbljooblpfdbiaaGreatDoor
namespace Go.Proofs.YtbljooblpfdbiaaGreatDoor
open Go Go.Proofs.YtbljooblpfdbiaaGreatDoor.X
abbrev FLT : Value := .iface 166 (.agg #[])
theorem pNum_suf : ∀ {xs : List UInt8} {i acc : Nat} {b : Nat × List UInt8}, pNum i acc xs = some b → ∃ pre, pre ≠ [] ∧ xs = pre ++ b.2
  | [], _, _, _, h => by cases h
  | c :: xs, i, acc, b, h => by
    unfold pNum at h
    split at h
    · cases h
    · split at h
      · cases h; exact ⟨[c], by simp, rfl⟩
      · obtain ⟨pre, _, e⟩ := pNum_suf h
        exact ⟨c :: pre, by simp, by rw [e]; rfl⟩
theorem pText_suf {most : Int} {xs : List UInt8} {b : List UInt8 × List UInt8} (h : pText most xs = some b) : ∃ pre, pre ≠ [] ∧ xs = pre ++ b.2 := by
  unfold pText at h
  cases hp : pNum 0 0 xs with
  | none => rw [hp] at h; cases h
  | some z =>
    obtain ⟨a, ys⟩ := z
    obtain ⟨pre, h1, e⟩ := pNum_suf hp
    rw [hp] at h
    simp only at h
    split at h
    · cases h
    · cases h
      refine ⟨pre ++ ys.take a, by simp [h1], ?_⟩
      rw [List.append_assoc, List.take_append_drop]; exact e
theorem suf_drop {xs pre ys : List UInt8} (h : xs = pre ++ ys) : xs.drop (xs.length - ys.length) = ys := by
  subst h; rw [List.length_append, Nat.add_sub_cancel, List.drop_left]
set_option maxHeartbeats 4000000 in
set_option maxRecDepth 100000 in
theorem rcaught_0 (be : Nat) (w : World) : DCall Tryz.prog 91 #[.pointer (some ⟨be, 0, none⟩)] w .returning fun m w' => m = .returning ∧ w' = w := by
  refine X.DCall.rec2 (mode' := .returning) (v := .nilIface) Tryz.func91 rfl Tryz.ntmps91 rfl rfl rfl ?_
  refine X.opw X.wN rfl (X.assign rfl) ?_
  refine X.opsEnd ?_
  refine X.seq ?_
  refine X.seq ?_
  refine X.region ?_
  refine X.opw X.wN rfl (X.move rfl) ?_
  refine X.opw X.wN rfl (X.eqIf0 Tryz.underlying20 rfl rfl) ?_
  refine X.opsEnd ?_
  refine X.condT rfl ?_
  refine X.ret0 Tryz.func91 Tryz.results91 ?_
  exact ⟨rfl, rfl⟩
set_option maxHeartbeats 4000000 in
set_option maxRecDepth 100000 in
theorem rcaught_1 (be : Nat) (x : Value) (w : World) (hB : Blk w be [x] 27) : DCall Tryz.prog 91 #[.pointer (some ⟨be, 0, none⟩)] w (.panicking [{ v := FLT, recovered := false }]) fun m w' => m = .panicking [{ v := FLT, recovered := true }] ∧ Blk w' be [.int .i64 71] 27 ∧ Ext (fun k => k = be) w w' := by
  have hlt := hB.lt
  refine X.DCall.rec2 (mode' := .panicking [{ v := FLT, recovered := true }]) (v := FLT) Tryz.func91 rfl Tryz.ntmps91 rfl rfl rfl ?_
  refine X.opw X.wN rfl (X.assign rfl) ?_
  refine X.opsEnd ?_
  refine X.seq ?_
  refine X.seq ?_
  refine X.region ?_
  refine X.opw X.wN rfl (X.move rfl) ?_
  refine X.opw X.wN rfl (X.eqIf1 Tryz.underlying20 rfl rfl) ?_
  refine X.opsEnd ?_
  refine X.condF rfl ?_
  refine X.skip ?_
  refine X.seq ?_
  refine X.seq ?_
  refine X.region ?_
  refine X.opw X.wN rfl (X.move rfl) ?_
  refine X.opw X.wN rfl (X.tAssert Tryz.underlying166 rfl rfl) ?_
  refine X.opw X.wN rfl (X.move rfl) ?_
  refine X.opw X.wN rfl (X.extr rfl rfl) ?_
  refine X.opw X.wN rfl (X.extr (v := .bool true) rfl rfl) ?_
  refine X.opE X.wN rfl (X.allocE Tryz.zeroValue166 rfl) ?_
  rintro _ w1 ⟨rfl, hB1, hk1, hz1⟩
  refine X.opE X.wN rfl (X.storeNE Tryz.sizeOf166 hB1 rfl rfl rfl rfl (fun _ h => by cases h)) ?_
  rintro _ w2 ⟨hB2, hx2, hz2⟩
  refine X.opw X.wN rfl (X.assign (v := .bool true) rfl) ?_
  refine X.opsEnd ?_
  refine X.seq ?_
  refine X.region ?_
  refine X.opw X.wN rfl (X.move (v := .bool true) rfl) ?_
  refine X.opw X.wN rfl (X.not_ rfl) ?_
  refine X.opsEnd ?_
  refine X.condF rfl ?_
  refine X.skip ?_
  refine X.region ?_
  refine X.opw X.wN rfl (X.move rfl) ?_
  refine X.opw X.wN rfl (X.nilCk rfl) ?_
  refine X.opE X.wN rfl (X.storeE Tryz.sizeOf27 (hB.keep (hk1.step hx2 (by intros; (try simp only [] at *); omega))) rfl rfl rfl rfl) ?_
  rintro _ w3 ⟨hB3, hx3, hz3⟩
  refine X.opsEnd ?_
  refine X.end0 Tryz.func91 Tryz.results91 ?_
  exact ⟨rfl, hB3, (Ext.andThen (Ext.andThen (Ext.andThen (Ext.refl (fun k => k = be) _) hk1 (by intro k h1 h2; first | exact h2.elim | omega | (simp only [] at *; omega))) hx2 (by intro k h1 h2; first | exact h2.elim | omega | (simp only [] at *; omega))) hx3 (by intro k h1 h2; first | exact h2.elim | omega | (simp only [] at *; omega)))⟩
theorem PRet.of {β : Type} {P : Program} {f : FuncId} {args : Array Value} {w : World} {x : Value} {ok : Option β} {Q : β → Value → World → Prop} {B : World → Prop} (h : X.Call P f args w fun o w' => match ok with
    | some b => ∃ v, o = .ret v ∧ Q b v w'
    | none => o = .pan [{ v := x, recovered := false }] ∧ B w') : PRet P f args w x ok Q B := h
def okE (e : Int) : Option Unit := if e = 0 then some () else none
set_option maxHeartbeats 4000000 in
set_option maxRecDepth 100000 in
theorem must_c (e : Int) (w : World) : PRet Tryz.prog 93 #[.int .i64 e] w FLT (okE e) (fun _ v w' => v = .tuple #[] ∧ Keep w w') (fun w' => Keep w w') := by
  unfold okE
  apply PRet.of
  refine X.enter Tryz.func93 rfl Tryz.ntmps93 rfl ?_
  refine X.seq ?_
  refine X.region ?_
  refine X.opw X.wN rfl (X.move (v := .int .i64 _) rfl) ?_
  refine X.opP X.wN rfl rfl (X.neI rfl rfl) (fun h3 => ?_) (fun h3 => ?_)
  · rw [if_neg h3]
    refine X.opsEnd ?_
    refine X.condT rfl ?_
    refine X.region ?_
    refine X.opw X.wN rfl (X.buildB (vs := []) (cs := #[]) rfl (by kernel_rfl)) ?_
    refine X.opw X.wN rfl (X.mkIface Tryz.underlying166 rfl rfl) ?_
    refine X.opPanic X.wN rfl ?_
    refine X.unw_pan Tryz.func93 ?_
    exact ⟨rfl, (Keep.refl _)⟩
  · have h3 : e = 0 := Classical.byContradiction h3
    rw [if_pos h3]
    refine X.opsEnd ?_
    refine X.condF rfl ?_
    refine X.skip ?_
    refine X.end0 Tryz.func93 Tryz.results93 ?_
    exact ⟨_, rfl, rfl, (Keep.refl _)⟩
end Go.Proofs.YtbljooblpfdbiaaGreatDoor
namespace Go.Proofs.YtbljooblpfdbiaaGreatDoor
open Go Go.Proofs.YtbljooblpfdbiaaGreatDoor.X
abbrev LEAF := Nat × Nat × List VAL
def parts (all : Nat) : Nat → Nat → Option (List VAL) → List UInt8 → Option (List LEAF)
  | 0, a, _, x => if x = [] ∧ a = all then some [] else none
  | k + 1, a, last, x => match pNum 0 0 x with
    | none => none
    | some (sz, x1) => match pText 1048576 x1 with
      | none => none
      | some (kb, x2) => match pFrom kb with
        | none => none
        | some t => if all - a < sz ∨ (match last with | none => false | some u => decide (0 ≤ cmpT u t)) = true then none
          else (parts all k (a + sz) (some t) x2).map fun l => (a, sz, t) :: l
def le4 (t : List UInt8) : Nat := (t.getD 0 0).toNat + 256 * (t.getD 1 0).toNat + 65536 * (t.getD 2 0).toNat + 16777216 * (t.getD 3 0).toNat
def idx3 (all : Nat) (x : List UInt8) : Option (List LEAF × Nat) := match pNum 0 0 x with
  | none => none
  | some (cn, x1) => match pNum 0 0 x1 with
    | none => none
    | some (sm, x2) => if 9223372036854775807 < sm then none else (parts all cn 0 none x2).map fun l => (l, sm)
def idx2 (b : List UInt8) (t : List UInt8) : Option (List LEAF × Nat) :=
  if b.length - 8 < le4 t then none else match openC ((b.drop (b.length - 8 - le4 t)).take (le4 t)) with
    | (e, x) => if e ≠ 0 then none else idx3 (b.length - 8 - le4 t) x
def idxP (b : List UInt8) : Option (List LEAF × Nat) :=
  if b.length < 8 then none else match openC (b.drop (b.length - 8)) with
    | (e, t) => if e ≠ 0 then none else idx2 b t
theorem okE_some {α : Type} {o : Option (α × List UInt8)} {u : Unit} (h : okE (code o) = some u) : ∃ z, o = some z := by
  cases o with
  | none => exact absurd h (by show okE 30 ≠ _; simp [okE])
  | some z => exact ⟨z, rfl⟩
theorem okE_none {α : Type} {o : Option (α × List UInt8)} (h : okE (code o) = none) : o = none := by
  cases o with
  | none => rfl
  | some z => exact absurd h (by show okE 0 ≠ _; simp [okE])
theorem okE_s {e : Int} {u : Unit} (h : okE e = some u) : e = 0 := by
  unfold okE at h; split at h
  · assumption
  · cases h
theorem okE_n {e : Int} (h : okE e = none) : e ≠ 0 := by
  unfold okE at h; split at h
  · cases h
  · assumption
set_option maxHeartbeats 4000000 in
set_option maxRecDepth 100000 in
theorem rnum_c {lo hi : Nat} {A : Option Addr} {n c : Nat} {xs : List UInt8} (w : World) (hs : Sl KB lo hi w A n xs) (hhi : hi ≤ w.heap.size) (hnc : n ≤ c) (hn : n ≤ 1000000) : PRet Tryz.prog 94 #[.slice A n c] w FLT (pNum 0 0 xs) (fun b v w' => ∃ A' c', v = .tuple #[.int .u64 ((b.1 : Nat) : Int), .slice A' b.2.length c'] ∧ b.2.length ≤ c' ∧ c' ≤ c ∧ b.1 < 18446744073709551616 ∧ Sl KB lo hi w' A' b.2.length b.2 ∧ Keep w w') (fun w' => Keep w w') := by
  have hl := hs.len
  apply PRet.of
  refine X.enter Tryz.func94 rfl Tryz.ntmps94 rfl ?_
  refine X.seq ?_
  refine X.region ?_
  refine X.opw X.wN rfl (X.assign rfl) ?_
  refine X.opw X.wN rfl (X.assign rfl) ?_
  refine X.opsEnd ?_
  refine X.seq ?_
  refine X.region ?_
  refine X.opw X.wN rfl (X.move (v := .slice _ _ _) rfl) ?_
  refine X.opE X.wN rfl (X.callE (TakeNum_c _ (hs.wide (Nat.zero_le _) (by omega)) hnc hn) Tryz.call126 rfl rfl) ?_
  rintro _ w1 ⟨rfl, hk1⟩
  have hk1' := hk1.size
  refine X.opw X.wN rfl (X.move rfl) ?_
  refine X.opw X.wN rfl (X.extr rfl rfl) ?_
  refine X.opw X.wN rfl (X.extr rfl rfl) ?_
  refine X.opw X.wN rfl (X.extr rfl rfl) ?_
  refine X.opw X.wN rfl (X.assign (v := .int .u64 _) rfl) ?_
  refine X.opw X.wN rfl (X.assign (v := .int .i64 _) rfl) ?_
  refine X.opw X.wN rfl (X.assign (v := .int .i64 _) rfl) ?_
  refine X.opsEnd ?_
  refine X.seq ?_
  refine X.region ?_
  refine X.opw X.wN rfl (X.move (v := .int .i64 _) rfl) ?_
  refine X.opPR (must_c _ _) X.wN rfl Tryz.call93 rfl (fun b2 hb2 => ?_) (fun hb2 => ?_)
  · rintro _ w2 ⟨rfl, hk2⟩
    have hk2' := hk2.size
    obtain ⟨z, hz⟩ := okE_some hb2
    obtain ⟨pre, hpre, hxs⟩ := pNum_suf hz
    have hzl : z.2.length ≤ n := by rw [← hl, hxs, List.length_append]; omega
    have hcn : cnt (pNum 0 0 xs) n = ((n - z.2.length : Nat) : Int) := by rw [hz]; show (n : Int) - (z.2.length : Int) = _; omega
    refine X.opsEnd ?_
    refine X.seq ?_
    refine X.regionD (fun _ => False) 5 (by kernel_rfl) (by kernel_rfl) (fun w3 hk3 hz3 => ?_)
    refine X.dTake 0 rfl (by kernel_rfl) (by kernel_rfl) (by kernel_rfl) (X.dwN rfl) (fun w' hk' => X.move (v := .int .u64 _) rfl) ?_
    refine X.dTake 1 rfl (by kernel_rfl) (by kernel_rfl) (by kernel_rfl) (X.dwN rfl) (fun w' hk' => X.move (v := .slice _ _ _) rfl) ?_
    refine X.dTake 2 rfl (by kernel_rfl) (by kernel_rfl) (by kernel_rfl) (X.dwN rfl) (fun w' hk' => X.move (v := .int .i64 _) rfl) ?_
    refine X.dTake 3 rfl (by kernel_rfl) (by kernel_rfl) (by kernel_rfl) (X.dwN rfl) (fun w' hk' => X.cutL (m := cnt (pNum 0 0 xs) n) Tryz.underlying43 Tryz.sizeOf5 rfl rfl ⟨by omega, by omega⟩) ?_
    refine X.dTake 4 rfl (by kernel_rfl) (by kernel_rfl) (by kernel_rfl) (X.dwN rfl) (fun w' hk' => X.assign (v := .int .u64 _) rfl) ?_
    refine X.dStep (i := 5) (by kernel_rfl) rfl (X.dwN rfl) (X.assign rfl) (fun h => absurd h (by decide)) ?_
    refine X.dEnd (by kernel_rfl) ?_
    refine X.ret2 (v1 := (.int .u64 _)) Tryz.func94 Tryz.results94 rfl rfl ?_
    have e1 : n - (cnt (pNum 0 0 xs) n).toNat = z.2.length := by rw [hcn, Int.toNat_natCast]; omega
    have hd := hs.drop (cnt (pNum 0 0 xs) n).toNat c (by omega) hnc
    rw [e1, hcn, Int.toNat_natCast, ← hl, suf_drop hxs] at hd
    rw [hl] at hd
    rw [hz] at e1 ⊢
    refine ⟨_, rfl, _, c - (cnt (some z) n).toNat, by rw [e1]; rfl, ?_, by omega, pNum_lt xs 0 0 z (by omega) (by decide) hz, ?_, ((hk1.trans hk2).trans hk3)⟩
    · rw [hz] at hcn; rw [hcn, Int.toNat_natCast]; omega
    · rw [hz] at hcn; rw [hcn, Int.toNat_natCast]; exact hd.keep ((hk1.trans hk2).trans hk3)
  · rintro w2 hx2
    have hx2' := hx2.size
    refine X.unw_pan Tryz.func94 ?_
    have hz := okE_none hb2
    rw [hz]
    exact ⟨rfl, ((hk1.step hx2 (by intro q g1; first | exact (g1 : False).elim | (have g1 : q = _ := g1; omega) | omega))).mono fun _ _ h => h.elim⟩
end Go.Proofs.YtbljooblpfdbiaaGreatDoor
namespace Go.Proofs.YtbljooblpfdbiaaGreatDoor
open Go Go.Proofs.YtbljooblpfdbiaaGreatDoor.X
abbrev LH := Nat × Nat × HDR
abbrev evLf (x : LH) : Value := .agg #[.int .i64 (x.1 : Int), .int .i64 (x.2.1 : Int), .slice x.2.2.1 x.2.2.2.1 x.2.2.2.2]
def KLf : Kd LH := Kd.plain 3 (fun x => [.int .i64 (x.1 : Int), .int .i64 (x.2.1 : Int), .slice x.2.2.1 x.2.2.2.1 x.2.2.2.2]) (fun _ => True) (fun _ => rfl) (fun _ u hu => by simp at hu; rcases hu with rfl | rfl | rfl <;> rfl)
theorem KLf_flat : Flat KLf := fun h => h
theorem repsLf {w : World} (x : LH) : RepsV KLf w [x] [evLf x] := ⟨⟨_, rfl, rfl, trivial⟩, trivial⟩
theorem ELf : ElemInfo Tryz.prog 106 3 40 := ElemInfo.of (z := .agg #[.int .i64 0, .int .i64 0, .slice none 0 0]) (by kernel_rfl) rfl rfl rfl
def NdLf : Nd LH LEAF where
  K := KLf
  flat := KLf_flat
  R := fun TB w x q => x.1 = q.1 ∧ x.2.1 = q.2.1 ∧ x.2.2.2.1 ≤ x.2.2.2.2 ∧ ∃ lo hi, (∀ k, lo ≤ k → k < hi → TB k) ∧ Sl KV lo hi w x.2.2.1 x.2.2.2.1 q.2.2
  ext := fun ⟨h1, h2, h3, lo, hi, h4, h5⟩ y hU => ⟨h1, h2, h3, lo, hi, h4, h5.ext y fun k a b => hU k (h4 k a b)⟩
  mono := fun ⟨h1, h2, h3, lo, hi, h4, h5⟩ hT => ⟨h1, h2, h3, lo, hi, fun k a b => hT k (h4 k a b), h5⟩
theorem or64 (a b k : Nat) (ha : a < 2 ^ k) (hk : k ≤ 24) (hb : b < 256) : IntKind.i64.wrap (BitVec.ofInt IntKind.i64.bits (a : Int) ||| BitVec.ofInt IntKind.i64.bits ((b * 2 ^ k : Nat) : Int)).toNat = ((a + 2 ^ k * b : Nat) : Int) := by
  have h1 : (2 : Nat) ^ k ≤ 2 ^ 24 := Nat.pow_le_pow_right (by decide) hk
  have h2 : b * 2 ^ k ≤ 255 * 2 ^ 24 := Nat.mul_le_mul (by omega) h1
  have e : (BitVec.ofInt IntKind.i64.bits (a : Int) ||| BitVec.ofInt IntKind.i64.bits ((b * 2 ^ k : Nat) : Int)).toNat = a + 2 ^ k * b := by
    show (BitVec.ofInt 64 (a : Int) ||| BitVec.ofInt 64 ((b * 2 ^ k : Nat) : Int)).toNat = _
    rw [BitVec.toNat_or, BitVec.ofInt_natCast, BitVec.ofInt_natCast, BitVec.toNat_ofNat, BitVec.toNat_ofNat, Nat.mod_eq_of_lt (by omega), Nat.mod_eq_of_lt (by omega), Nat.or_comm, ← Nat.shiftLeft_eq, ← Nat.shiftLeft_add_eq_or_of_lt ha, Nat.shiftLeft_eq, Nat.mul_comm]
    omega
  rw [e, X.w_i64]
  have := Nat.mul_comm b (2 ^ k)
  omega
theorem shl64 (b k : Nat) (hk : k ≤ 24) (hb : b < 256) : IntKind.i64.wrap ((b : Int) * 2 ^ (min ((k : Int)).toNat IntKind.i64.bits)) = ((b * 2 ^ k : Nat) : Int) := by
  have h : min ((k : Int)).toNat IntKind.i64.bits = k := by show min ((k : Int)).toNat 64 = k; omega
  have h1 : (2 : Nat) ^ k ≤ 2 ^ 24 := Nat.pow_le_pow_right (by decide) hk
  have h2 : b * 2 ^ k ≤ 255 * 2 ^ 24 := Nat.mul_le_mul (by omega) h1
  have e : (2 : Int) ^ k = ((2 ^ k : Nat) : Int) := by rw [Int.natCast_pow]; rfl
  rw [h, e, ← Int.natCast_mul, X.w_i64 (by omega)]
theorem list4 {l : List UInt8} (h : l.length = 4) : ∃ a b c d, l = [a, b, c, d] := by
  match l, h with
  | [a, b, c, d], _ => exact ⟨a, b, c, d, rfl⟩
theorem open_len {l : List UInt8} (h : (openC l).1 = 0) : 4 ≤ l.length ∧ (openC l).2 = l.take (l.length - 4) := by
  rw [openC] at h ⊢
  split at h
  · exact absurd h (by decide)
  · rename_i h4
    rw [if_neg h4]
    split at h
    · rename_i h5; rw [if_pos h5]; exact ⟨by omega, rfl⟩
    · exact absurd h (by decide)
section
variable {all k a : Nat} {last : Option (List VAL)} {x : List UInt8}
theorem parts_1 (h : pNum 0 0 x = none) : parts all (k + 1) a last x = none := by rw [parts, h]
theorem parts_2 {z : Nat × List UInt8} (h : pNum 0 0 x = some z) (h2 : pText 1048576 z.2 = none) : parts all (k + 1) a last x = none := by obtain ⟨s, x1⟩ := z; rw [parts, h]; simp only; rw [h2]
theorem parts_3 {z : Nat × List UInt8} {y : List UInt8 × List UInt8} (h : pNum 0 0 x = some z) (h2 : pText 1048576 z.2 = some y) (h3 : pFrom y.1 = none) : parts all (k + 1) a last x = none := by obtain ⟨s, x1⟩ := z; obtain ⟨kb, x2⟩ := y; rw [parts, h]; simp only; rw [h2]; simp only; rw [h3]
def badL (last : Option (List VAL)) (t : List VAL) : Bool := match last with | none => false | some u => decide (0 ≤ cmpT u t)
theorem parts_4 {z : Nat × List UInt8} {y : List UInt8 × List UInt8} {t : List VAL} (h : pNum 0 0 x = some z) (h2 : pText 1048576 z.2 = some y) (h3 : pFrom y.1 = some t) (h4 : all - a < z.1 ∨ badL last t = true) : parts all (k + 1) a last x = none := by
  obtain ⟨s, x1⟩ := z; obtain ⟨kb, x2⟩ := y; rw [parts, h]; simp only; rw [h2]; simp only; rw [h3]; simp only; exact if_pos h4
theorem parts_5 {z : Nat × List UInt8} {y : List UInt8 × List UInt8} {t : List VAL} (h : pNum 0 0 x = some z) (h2 : pText 1048576 z.2 = some y) (h3 : pFrom y.1 = some t) (h4 : ¬ (all - a < z.1 ∨ badL last t = true)) : parts all (k + 1) a last x = (parts all k (a + z.1) (some t) y.2).map fun l => (a, z.1, t) :: l := by
  obtain ⟨s, x1⟩ := z; obtain ⟨kb, x2⟩ := y; rw [parts, h]; simp only; rw [h2]; simp only; rw [h3]; simp only; exact if_neg h4
end
def lastT (l : List LEAF) : Option (List VAL) := l.getLast?.map (·.2.2)
theorem lastT_snoc (l : List LEAF) (q : LEAF) : lastT (l ++ [q]) = some q.2.2 := by rw [lastT, List.getLast?_concat]; rfl
set_option maxHeartbeats 4000000 in
set_option maxRecDepth 100000 in
theorem zeroI0_c (be bx bn : Nat) (w : World) (hE : Blk w be [.int .i64 0] 27) : Ret Tryz.prog 90 #[.pointer (some ⟨be, 0, none⟩), .pointer (some ⟨bx, 0, none⟩), .pointer (some ⟨bn, 0, none⟩)] w fun _ w' => w' = w := by
  refine X.enter Tryz.func90 rfl Tryz.ntmps90 rfl ?_
  refine X.seq ?_
  refine X.region ?_
  refine X.opw X.wN rfl (X.load1B Tryz.isAgg27 hE rfl rfl) ?_
  refine X.opP X.wN rfl rfl (X.neI rfl rfl) (fun h4 => ?_) (fun h4 => ?_)
  · exact absurd rfl h4
  · refine X.opsEnd ?_
    refine X.condF rfl ?_
    refine X.skip ?_
    refine X.end0 Tryz.func90 Tryz.results90 ?_
    rfl
set_option maxHeartbeats 4000000 in
set_option maxRecDepth 100000 in
theorem zeroI1_c (be bx bn : Nat) (x k : Value) (w : World) (hE : Blk w be [.int .i64 71] 27) (hX : Blk w bx [x] 54) (hN : Blk w bn [k] 3) (h1 : bx ≠ be) (h2 : bn ≠ be) (h3 : bn ≠ bx) : Ret Tryz.prog 90 #[.pointer (some ⟨be, 0, none⟩), .pointer (some ⟨bx, 0, none⟩), .pointer (some ⟨bn, 0, none⟩)] w
    fun _ w' => Blk w' be [.int .i64 71] 27 ∧ Blk w' bx [.slice none 0 0] 54 ∧ Blk w' bn [.int .i64 0] 3 ∧ Ext (fun k => k = bx ∨ k = bn) w w' := by
  refine X.enter Tryz.func90 rfl Tryz.ntmps90 rfl ?_
  refine X.seq ?_
  refine X.region ?_
  refine X.opw X.wN rfl (X.load1B Tryz.isAgg27 hE rfl rfl) ?_
  refine X.opP X.wN rfl rfl (X.neI rfl rfl) (fun h4 => ?_) (fun h4 => ?_)
  · refine X.opsEnd ?_
    refine X.condT rfl ?_
    refine X.region ?_
    refine X.opE X.wN rfl (X.storeE Tryz.sizeOf54 hX rfl rfl rfl rfl) ?_
    rintro _ w1 ⟨hB1, hx1, hz1⟩
    refine X.opE X.wN rfl (X.storeE Tryz.sizeOf3 (hN.ext hx1 (by intros; (try simp only []); omega)) rfl rfl rfl rfl) ?_
    rintro _ w2 ⟨hB2, hx2, hz2⟩
    refine X.opsEnd ?_
    refine X.end0 Tryz.func90 Tryz.results90 ?_
    exact ⟨((hE.ext hx1 (by intros; (try simp only []); omega)).ext hx2 (by intros; (try simp only []); omega)), (hB1.ext hx2 (by intros; (try simp only []); omega)), hB2, (Ext.andThen (Ext.andThen (Ext.refl (fun k => k = bx ∨ k = bn) _) hx1 (by intro k h1 h2; first | exact h2.elim | omega | (simp only [] at *; omega))) hx2 (by intro k h1 h2; first | exact h2.elim | omega | (simp only [] at *; omega)))⟩
  · exact absurd (by decide) h4
end Go.Proofs.YtbljooblpfdbiaaGreatDoor
