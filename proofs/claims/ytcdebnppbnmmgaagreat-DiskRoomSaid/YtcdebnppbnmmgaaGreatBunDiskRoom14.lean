/- Texts that the proof of DiskRoom stands on, part 14. -/
import Derived.Test.YtcdebnppbnmmgaaGreatProg
import Derived.Test.YtcdebnppbnmmgaaGreatBunDiskRoom13

namespace Go.Proofs.YtcdebnppbnmmgaaGreat
open Go Go.Proofs.YtcdebnppbnmmgaaGreat.X
set_option linter.unusedVariables false
set_option linter.unusedSimpArgs false
def fat (fs : List FILE) (k : Int) : FILE := fs.getD k.toNat ([], [])
theorem fat_at {fs : List FILE} {k : Int} {f : FILE} (h : fs[k.toNat]? = some f) : fat fs k = f := by rw [fat, List.getD_eq_getElem?_getD, h]; rfl
def DS.sync (nm : ByteArray) (s : DS) : Int × DS :=
  if s.down = true then (54, s) else match asc nm s.dir with
  | none => (52, s)
  | some k => (0, ({ s with fs := s.fs.set k.toNat ((fat s.fs k).1, (fat s.fs k).1), ls := s.ls.filter fun p => decide (p.1.1 ≠ k) } : DS).did)
set_option maxHeartbeats 4000000 in
set_option maxRecDepth 100000 in
theorem Sync_c {col : Nat → Nat} {b bf bd bx bl : Nat} {A : Option Addr} {n c : Nat} {pt : List Nat} {s0 : DS} (nm : ByteArray) (w : World) (h : DkB col w b bf bd bx bl A n c pt s0) (hok : s0.Ok) (hnm : nm.size ≤ 9223372036854775807) : Ret Tryz.prog 19 #[ptrV b, .string nm] w fun r w' => r = .int .i64 (s0.sync nm).1 ∧ ∃ col', DkR col' w' b (s0.sync nm).2 ∧ Stp col w col' w' := by
  have hbl := h.B.lt
  have hfl := h.F.lt
  have hdl := h.G.lt
  have hxl := h.X.lt
  have hll := h.L.lt
  have hcb := h.cb
  have hcf := h.cf
  have hcd := h.cd
  have hcx := h.cx
  have hcl := h.cl
  obtain ⟨z1, z2, z3, z4, z5, z6, z7, z8, z9, z10⟩ := h.ne
  have hlt := h.lt
  have hok1 := hok.lf
  have hok2 := hok.few
  refine X.enter Tryz.func19 rfl Tryz.ntmps19 rfl ?_
  refine X.seq ?_
  refine X.region ?_
  refine X.opw X.wN rfl (X.assign rfl) ?_
  refine X.opsEnd ?_
  refine X.seq ?_
  refine X.seq ?_
  refine X.region ?_
  refine X.opw X.wN rfl (X.move rfl) ?_
  refine X.opE X.wN rfl (X.callE (may_c _ h.B) Tryz.call43 rfl rfl) ?_
  rintro _ w1 ⟨rfl, hk1⟩
  have hk1' := hk1.size
  refine X.opw X.wN rfl (X.assign (v := .int .i64 _) rfl) ?_
  refine X.opsEnd ?_
  refine X.seq ?_
  refine X.region ?_
  refine X.opw X.wN rfl (X.move (v := .int .i64 _) rfl) ?_
  refine X.opP X.wN rfl rfl (X.neI rfl rfl) (fun h12 => ?_) (fun h12 => ?_)
  · have hd : (s0.fu && decide (s0.lf ≤ 0)) = true := by
      cases hq : (s0.fu && decide (s0.lf ≤ 0)) with
      | true => rfl
      | false => rw [hq] at h12; simp at h12
    have hD : s0.down = true := hd
    refine X.opsEnd ?_
    refine X.condT rfl ?_
    refine X.seq ?_
    refine X.region ?_
    refine X.opw X.wN rfl (X.move (v := .int .i64 _) rfl) ?_
    refine X.opw X.wN rfl (X.assign (v := .int .i64 _) rfl) ?_
    refine X.opsEnd ?_
    refine X.ret1 (v := (.int .i64 _)) Tryz.func19 Tryz.results19 rfl ?_
    have e : s0.sync nm = (54, s0) := by simp only [DS.sync, if_pos hD]
    rw [e]
    exact ⟨by rw [if_pos hd], col, (h.keep hk1).r, Stp.keep hk1⟩
  · have hd : ¬ (s0.fu && decide (s0.lf ≤ 0)) = true := by
      cases hq : (s0.fu && decide (s0.lf ≤ 0)) with
      | false => simp
      | true => rw [hq] at h12; simp at h12
    have hD : ¬ s0.down = true := hd
    refine X.opsEnd ?_
    refine X.condF rfl ?_
    refine X.skip ?_
    refine X.seq ?_
    refine X.region ?_
    refine X.opw X.wN rfl (X.move rfl) ?_
    refine X.opw X.wN rfl (X.move (v := .string _) rfl) ?_
    refine X.opE X.wN rfl (X.callE (named_c nm _ (h.B.keep hk1) (h.G.keep hk1) (h.F.keep hk1)) Tryz.call47 rfl rfl) ?_
    rintro _ w2 ⟨rfl, hk2⟩
    have hk2' := hk2.size
    refine X.opw X.wN rfl (X.move rfl) ?_
    refine X.opw X.wN rfl (X.extr rfl rfl) ?_
    refine X.opw X.wN rfl (X.extr rfl rfl) ?_
    refine X.opw X.wN rfl (X.extr rfl rfl) ?_
    refine X.opE X.wN rfl (X.allocE Tryz.zeroValue3 rfl) ?_
    rintro _ w3 ⟨rfl, hB3, hk3, hz3⟩
    refine X.opE X.wN rfl (X.storeE Tryz.sizeOf3 hB3 rfl rfl rfl rfl) ?_
    rintro _ w4 ⟨hB4, hx4, hz4⟩
    refine X.opw X.wN rfl (X.assign rfl) ?_
    refine X.opw X.wN rfl (X.assign (v := .bool _) rfl) ?_
    refine X.opsEnd ?_
    refine X.seq ?_
    refine X.seq ?_
    refine X.region ?_
    refine X.opw X.wN rfl (X.move (v := .bool _) rfl) ?_
    refine X.opw X.wN rfl (X.not_ rfl) ?_
    refine X.opsEnd ?_
    refine X.condB rfl (fun hc => ?_) (fun hc => ?_)
    · have hno : asc nm s0.dir = none := by
        cases ha : asc nm s0.dir with
        | none => rfl
        | some k => rw [ha] at hc; simp at hc
      refine X.seq ?_
      refine X.region ?_
      refine X.opw X.wN rfl (X.assign rfl) ?_
      refine X.opsEnd ?_
      refine X.ret1 (v := (.int .i64 _)) Tryz.func19 Tryz.results19 rfl ?_
      have e : s0.sync nm = (52, s0) := by simp only [DS.sync, if_neg hD, hno]
      rw [e]
      exact ⟨rfl, col, (h.keep (((hk1.trans hk2).trans hk3).step hx4 (by intros; (try simp only [] at *); omega))).r, Stp.keep (((hk1.trans hk2).trans hk3).step hx4 (by intros; (try simp only [] at *); omega))⟩
    · obtain ⟨k, hfa⟩ : ∃ k, asc nm s0.dir = some k := by
        cases ha : asc nm s0.dir with
        | none => rw [ha] at hc; simp at hc
        | some k => exact ⟨k, rfl⟩
      obtain ⟨hka, hkb, _⟩ := hok.dir _ (asc_some hfa)
      have hka : 0 ≤ k := hka
      have hkb : k < s0.fs.length := hkb
      obtain ⟨pf, f, A1, n1, c1, A2, n2, c2, hfb, hpf, hff, hn1, hn2, hfl1, hpc, hBf, hM1, hM2⟩ := h.at_ hka hkb
      have hlf := hok.len hff
      have hpl2 := hBf.lt
      rw [hfa, Option.getD_some, hfb, Option.getD_some]
      rw [hfa, Option.getD_some] at hB4
      refine X.skip ?_
      refine X.seq ?_
      refine X.region ?_
      refine X.opw X.wN rfl (X.move rfl) ?_
      refine X.opw X.wN rfl (X.move rfl) ?_
      refine X.opw X.wN rfl (X.nilCk rfl) ?_
      refine X.opw X.wN rfl (X.fldB (j := 0) Tryz.underlying87 rfl rfl Tryz.sizeOf31 rfl) ?_
      refine X.opw X.wN rfl (X.load1B Tryz.isAgg31 (hBf.keep (((hk1.trans hk2).trans hk3).step hx4 (by intros; (try simp only [] at *); omega))) rfl rfl) ?_
      refine X.opE X.wN rfl (X.callE (CloneB_c _ ((((((hM1.keep hk1).keep hk2).keep hk3).ext hx4 (by intros; omega) (by first | (intros; (try simp only [] at *); omega) | (intro hh; (try simp only [] at hh); omega) | (intro q h1 h2; (try simp only [] at h1 h2); have := hlt q (by omega); omega) | (intro hh; have hh : _ = _ := hh; subst hh; omega) | (intro q h1 h2; have h2 : q = _ := h2; subst h2; (try simp only [] at h1); omega) | (intro q h1 h2; (try simp only [] at h1 h2); omega) | (intro q h1 h2; have h2 : q = _ := h2; have := hlt q (by (try simp only [] at h1); omega); omega) | (intro q h1 h2; (try simp only [] at h1 h2); rcases h2 with h2 | h2 | h2 <;> first | omega | (subst h2; omega)) | (intro q h1 h2; (try simp only [] at h1 h2); rcases h2 with h2 | h2 | h2 | h2 <;> first | omega | (subst h2; omega))))).rd KB_flat).2 (by omega)) Tryz.call54 rfl rfl) ?_
      rintro _ w5 ⟨A', c', rfl, hcc, hMc, hk5⟩
      have hk5' := hk5.size
      refine X.opw X.wN rfl (X.nilCk rfl) ?_
      refine X.opw X.wN rfl (X.fldB (j := 1) Tryz.underlying87 rfl rfl Tryz.sizeOf31 rfl) ?_
      refine X.opE X.wN rfl (X.storeE Tryz.sizeOf31 (hBf.keep ((((hk1.trans hk2).trans hk3).step hx4 (by intros; (try simp only [] at *); omega)).trans hk5)) rfl rfl rfl rfl) ?_
      rintro _ w6 ⟨hB6, hx6, hz6⟩
      refine X.opsEnd ?_
      refine X.seq ?_
      refine X.region ?_
      refine X.opw X.wN rfl (X.move rfl) ?_
      refine X.opw X.wN rfl (X.nilCk rfl) ?_
      refine X.opw X.wN rfl (X.fldB (j := 6) Tryz.underlying71 rfl rfl Tryz.sizeOf69 rfl) ?_
      refine X.opw X.wN rfl (X.load1B Tryz.isAgg69 ((h.B.keep ((((hk1.trans hk2).trans hk3).step hx4 (by intros; (try simp only [] at *); omega)).trans hk5)).ext hx6 (by first | (intros; (try simp only [] at *); omega) | (intro hh; (try simp only [] at hh); omega) | (intro q h1 h2; (try simp only [] at h1 h2); have := hlt q (by omega); omega) | (intro hh; have hh : _ = _ := hh; subst hh; omega) | (intro q h1 h2; have h2 : q = _ := h2; subst h2; (try simp only [] at h1); omega) | (intro q h1 h2; (try simp only [] at h1 h2); omega) | (intro q h1 h2; have h2 : q = _ := h2; have := hlt q (by (try simp only [] at h1); omega); omega) | (intro q h1 h2; (try simp only [] at h1 h2); rcases h2 with h2 | h2 | h2 <;> first | omega | (subst h2; omega)) | (intro q h1 h2; (try simp only [] at h1 h2); rcases h2 with h2 | h2 | h2 | h2 <;> first | omega | (subst h2; omega)))) rfl rfl) ?_
      refine X.opw X.wN rfl (X.mkFunc rfl) ?_
      refine X.opE X.wN rfl (X.callE (DelFunc_c _ ((((((h.L.keep hk1).keep hk2).keep hk3).ext hx4 (by first | (intros; (try simp only [] at *); omega) | (intro hh; (try simp only [] at hh); omega) | (intro q h1 h2; (try simp only [] at h1 h2); have := hlt q (by omega); omega) | (intro hh; have hh : _ = _ := hh; subst hh; omega) | (intro q h1 h2; have h2 : q = _ := h2; subst h2; (try simp only [] at h1); omega) | (intro q h1 h2; (try simp only [] at h1 h2); omega) | (intro q h1 h2; have h2 : q = _ := h2; have := hlt q (by (try simp only [] at h1); omega); omega) | (intro q h1 h2; (try simp only [] at h1 h2); rcases h2 with h2 | h2 | h2 <;> first | omega | (subst h2; omega)) | (intro q h1 h2; (try simp only [] at h1 h2); rcases h2 with h2 | h2 | h2 | h2 <;> first | omega | (subst h2; omega)))).keep hk5).ext hx6 (by first | (intros; (try simp only [] at *); omega) | (intro hh; (try simp only [] at hh); omega) | (intro q h1 h2; (try simp only [] at h1 h2); have := hlt q (by omega); omega) | (intro hh; have hh : _ = _ := hh; subst hh; omega) | (intro q h1 h2; have h2 : q = _ := h2; subst h2; (try simp only [] at h1); omega) | (intro q h1 h2; (try simp only [] at h1 h2); omega) | (intro q h1 h2; have h2 : q = _ := h2; have := hlt q (by (try simp only [] at h1); omega); omega) | (intro q h1 h2; (try simp only [] at h1 h2); rcases h2 with h2 | h2 | h2 <;> first | omega | (subst h2; omega)) | (intro q h1 h2; (try simp only [] at h1 h2); rcases h2 with h2 | h2 | h2 | h2 <;> first | omega | (subst h2; omega)))) ((hB4.keep hk5).ext hx6 (by first | (intros; (try simp only [] at *); omega) | (intro hh; (try simp only [] at hh); omega) | (intro q h1 h2; (try simp only [] at h1 h2); have := hlt q (by omega); omega) | (intro hh; have hh : _ = _ := hh; subst hh; omega) | (intro q h1 h2; have h2 : q = _ := h2; subst h2; (try simp only [] at h1); omega) | (intro q h1 h2; (try simp only [] at h1 h2); omega) | (intro q h1 h2; have h2 : q = _ := h2; have := hlt q (by (try simp only [] at h1); omega); omega) | (intro q h1 h2; (try simp only [] at h1 h2); rcases h2 with h2 | h2 | h2 <;> first | omega | (subst h2; omega)) | (intro q h1 h2; (try simp only [] at h1 h2); rcases h2 with h2 | h2 | h2 | h2 <;> first | omega | (subst h2; omega)))) (by omega)) Tryz.call61 rfl rfl) ?_
      rintro _ w7 ⟨rfl, hLd, hx7⟩
      have hx7' := hx7.size
      refine X.opsEnd ?_
      refine X.seq ?_
      refine X.region ?_
      refine X.opw X.wN rfl (X.move rfl) ?_
      refine X.opE X.wN rfl (X.callE (did_c _ (((h.B.keep ((((hk1.trans hk2).trans hk3).step hx4 (by intros; (try simp only [] at *); omega)).trans hk5)).ext hx6 (by first | (intros; (try simp only [] at *); omega) | (intro hh; (try simp only [] at hh); omega) | (intro q h1 h2; (try simp only [] at h1 h2); have := hlt q (by omega); omega) | (intro hh; have hh : _ = _ := hh; subst hh; omega) | (intro q h1 h2; have h2 : q = _ := h2; subst h2; (try simp only [] at h1); omega) | (intro q h1 h2; (try simp only [] at h1 h2); omega) | (intro q h1 h2; have h2 : q = _ := h2; have := hlt q (by (try simp only [] at h1); omega); omega) | (intro q h1 h2; (try simp only [] at h1 h2); rcases h2 with h2 | h2 | h2 <;> first | omega | (subst h2; omega)) | (intro q h1 h2; (try simp only [] at h1 h2); rcases h2 with h2 | h2 | h2 | h2 <;> first | omega | (subst h2; omega)))).ext hx7 (by first | (intros; (try simp only [] at *); omega) | (intro hh; (try simp only [] at hh); omega) | (intro q h1 h2; (try simp only [] at h1 h2); have := hlt q (by omega); omega) | (intro hh; have hh : _ = _ := hh; subst hh; omega) | (intro q h1 h2; have h2 : q = _ := h2; subst h2; (try simp only [] at h1); omega) | (intro q h1 h2; (try simp only [] at h1 h2); omega) | (intro q h1 h2; have h2 : q = _ := h2; have := hlt q (by (try simp only [] at h1); omega); omega) | (intro q h1 h2; (try simp only [] at h1 h2); rcases h2 with h2 | h2 | h2 <;> first | omega | (subst h2; omega)) | (intro q h1 h2; (try simp only [] at h1 h2); rcases h2 with h2 | h2 | h2 | h2 <;> first | omega | (subst h2; omega)))) (by omega)) Tryz.call46 rfl rfl) ?_
      rintro _ w8 ⟨rfl, hBd, hxd⟩
      have hxd' := hxd.size
      refine X.opw X.wN rfl (X.assign (v := .int .i64 _) rfl) ?_
      refine X.opsEnd ?_
      refine X.ret1 (v := (.int .i64 _)) Tryz.func19 Tryz.results19 rfl ?_
      have hfat := fat_at hff
      have hx : Ext (fun q => col q = 1 ∨ col q = 5 ∨ col q = 7 + 3 * k.toNat) w w8 := (Ext.andThen (Ext.andThen (Ext.andThen (Ext.andThen (Ext.andThen (Ext.andThen (Ext.andThen (Ext.andThen (Ext.refl (fun q => col q = 1 ∨ col q = 5 ∨ col q = 7 + 3 * k.toNat) _) hk1 (by intro q h1 h2; first | exact (h2 : False).elim | ((try simp only [] at h2); omega) | (have h2 : q = _ := h2; subst h2; omega) | (rcases h2 with h2 | h2 | h2 <;> first | omega | (subst h2; omega)))) hk2 (by intro q h1 h2; first | exact (h2 : False).elim | ((try simp only [] at h2); omega) | (have h2 : q = _ := h2; subst h2; omega) | (rcases h2 with h2 | h2 | h2 <;> first | omega | (subst h2; omega)))) hk3 (by intro q h1 h2; first | exact (h2 : False).elim | ((try simp only [] at h2); omega) | (have h2 : q = _ := h2; subst h2; omega) | (rcases h2 with h2 | h2 | h2 <;> first | omega | (subst h2; omega)))) hx4 (by intro q h1 h2; first | exact (h2 : False).elim | ((try simp only [] at h2); omega) | (have h2 : q = _ := h2; subst h2; omega) | (rcases h2 with h2 | h2 | h2 <;> first | omega | (subst h2; omega)))) hk5 (by intro q h1 h2; first | exact (h2 : False).elim | ((try simp only [] at h2); omega) | (have h2 : q = _ := h2; subst h2; omega) | (rcases h2 with h2 | h2 | h2 <;> first | omega | (subst h2; omega)))) hx6 (by intro q h1 h2; first | exact (h2 : False).elim | ((try simp only [] at h2); omega) | (have h2 : q = _ := h2; subst h2; omega) | (rcases h2 with h2 | h2 | h2 <;> first | omega | (subst h2; omega)))) hx7 (by intro q h1 h2; first | exact (h2 : False).elim | ((try simp only [] at h2); omega) | (have h2 : q = _ := h2; subst h2; omega) | (rcases h2 with h2 | h2 | h2 <;> first | omega | (subst h2; omega)))) hxd (by intro q h1 h2; first | exact (h2 : False).elim | ((try simp only [] at h2); omega) | (have h2 : q = _ := h2; subst h2; omega) | (rcases h2 with h2 | h2 | h2 <;> first | omega | (subst h2; omega))))
      have hxs := hx.size
      obtain ⟨col', hcol⟩ : ∃ col', col' = rec' col w.heap.size w8.heap.size (9 + 3 * k.toNat) := ⟨_, rfl⟩
      have hold : ∀ q, q < w.heap.size → col' q = col q := fun q hq => by rw [hcol]; exact rec_old hq
      have hnew : ∀ q, w.heap.size ≤ q → q < w8.heap.size → col' q = 9 + 3 * k.toNat := fun q h1 h2 => by rw [hcol]; exact rec_new h1 h2
      have hltc : ∀ q, col' q ≠ 0 → q < w8.heap.size := fun q hq => by rw [hcol] at hq; exact rec_lt hlt hxs hq
      have P := h.part (col' := col') (fun v => v = 1 ∨ v = 5 ∨ v = 7 + 3 * k.toNat) hx hold (fun q hq ht => ht)
      have hst : Stp col w col' w8 := ⟨hold, hx.mono (fun q _ t => by (try simp only [] at t); omega)⟩
      have e : s0.sync nm = (0, ({ s0 with fs := s0.fs.set k.toNat (f.1, f.1), ls := s0.ls.filter fun p => decide (p.1.1 ≠ k) } : DS).did) := by simp only [DS.sync, if_neg hD, hfa, hfat]
      rw [e]
      refine ⟨rfl, col', ⟨bf, bd, bx, bl, A, n, c, pt, ?_, P.F (by omega), P.G (by omega), P.X (by omega), (hLd.ext hxd (by first | (intros; (try simp only [] at *); omega) | (intro hh; (try simp only [] at hh); omega) | (intro q h1 h2; (try simp only [] at h1 h2); have := hlt q (by omega); omega) | (intro hh; have hh : _ = _ := hh; subst hh; omega) | (intro q h1 h2; have h2 : q = _ := h2; subst h2; (try simp only [] at h1); omega) | (intro q h1 h2; (try simp only [] at h1 h2); omega) | (intro q h1 h2; have h2 : q = _ := h2; have := hlt q (by (try simp only [] at h1); omega); omega) | (intro q h1 h2; (try simp only [] at h1 h2); rcases h2 with h2 | h2 | h2 <;> first | omega | (subst h2; omega)) | (intro q h1 h2; (try simp only [] at h1 h2); rcases h2 with h2 | h2 | h2 | h2 <;> first | omega | (subst h2; omega)))), P.M (by omega), P.cb, P.cf, P.cd, P.cx, P.cl, hltc, ?_, ?_⟩, hst⟩
      · have := hBd
        simp only [DS.did, List.length_set]
        exact this
      · simp only [DS.did, List.length_set]; exact P.pl
      · intro j q g h1 h2
        by_cases hj : j = k.toNat
        · subst hj
          rw [hpf] at h1
          have h2' : (s0.fs.set k.toNat (f.1, f.1))[k.toNat]? = some g := h2
          rw [List.getElem?_set_self (by omega)] at h2'
          cases h1; cases h2'
          exact ⟨(hold _ hpl2).trans hpc, _, _, _, _, _, _, ((hB6.ext hx7 (by first | (intros; (try simp only [] at *); omega) | (intro hh; (try simp only [] at hh); omega) | (intro q h1 h2; (try simp only [] at h1 h2); have := hlt q (by omega); omega) | (intro hh; have hh : _ = _ := hh; subst hh; omega) | (intro q h1 h2; have h2 : q = _ := h2; subst h2; (try simp only [] at h1); omega) | (intro q h1 h2; (try simp only [] at h1 h2); omega) | (intro q h1 h2; have h2 : q = _ := h2; have := hlt q (by (try simp only [] at h1); omega); omega) | (intro q h1 h2; (try simp only [] at h1 h2); rcases h2 with h2 | h2 | h2 <;> first | omega | (subst h2; omega)) | (intro q h1 h2; (try simp only [] at h1 h2); rcases h2 with h2 | h2 | h2 | h2 <;> first | omega | (subst h2; omega)))).ext hxd (by first | (intros; (try simp only [] at *); omega) | (intro hh; (try simp only [] at hh); omega) | (intro q h1 h2; (try simp only [] at h1 h2); have := hlt q (by omega); omega) | (intro hh; have hh : _ = _ := hh; subst hh; omega) | (intro q h1 h2; have h2 : q = _ := h2; subst h2; (try simp only [] at h1); omega) | (intro q h1 h2; (try simp only [] at h1 h2); omega) | (intro q h1 h2; have h2 : q = _ := h2; have := hlt q (by (try simp only [] at h1); omega); omega) | (intro q h1 h2; (try simp only [] at h1 h2); rcases h2 with h2 | h2 | h2 <;> first | omega | (subst h2; omega)) | (intro q h1 h2; (try simp only [] at h1 h2); rcases h2 with h2 | h2 | h2 | h2 <;> first | omega | (subst h2; omega)))), (((((((((hM1.keep hk1).keep hk2).keep hk3).ext hx4 (by intros; omega) (by first | (intros; (try simp only [] at *); omega) | (intro hh; (try simp only [] at hh); omega) | (intro q h1 h2; (try simp only [] at h1 h2); have := hlt q (by omega); omega) | (intro hh; have hh : _ = _ := hh; subst hh; omega) | (intro q h1 h2; have h2 : q = _ := h2; subst h2; (try simp only [] at h1); omega) | (intro q h1 h2; (try simp only [] at h1 h2); omega) | (intro q h1 h2; have h2 : q = _ := h2; have := hlt q (by (try simp only [] at h1); omega); omega) | (intro q h1 h2; (try simp only [] at h1 h2); rcases h2 with h2 | h2 | h2 <;> first | omega | (subst h2; omega)) | (intro q h1 h2; (try simp only [] at h1 h2); rcases h2 with h2 | h2 | h2 | h2 <;> first | omega | (subst h2; omega)))).keep hk5).ext hx6 (by intros; omega) (by first | (intros; (try simp only [] at *); omega) | (intro hh; (try simp only [] at hh); omega) | (intro q h1 h2; (try simp only [] at h1 h2); have := hlt q (by omega); omega) | (intro hh; have hh : _ = _ := hh; subst hh; omega) | (intro q h1 h2; have h2 : q = _ := h2; subst h2; (try simp only [] at h1); omega) | (intro q h1 h2; (try simp only [] at h1 h2); omega) | (intro q h1 h2; have h2 : q = _ := h2; have := hlt q (by (try simp only [] at h1); omega); omega) | (intro q h1 h2; (try simp only [] at h1 h2); rcases h2 with h2 | h2 | h2 <;> first | omega | (subst h2; omega)) | (intro q h1 h2; (try simp only [] at h1 h2); rcases h2 with h2 | h2 | h2 | h2 <;> first | omega | (subst h2; omega)))).ext hx7 (by intros; omega) (by first | (intros; (try simp only [] at *); omega) | (intro hh; (try simp only [] at hh); omega) | (intro q h1 h2; (try simp only [] at h1 h2); have := hlt q (by omega); omega) | (intro hh; have hh : _ = _ := hh; subst hh; omega) | (intro q h1 h2; have h2 : q = _ := h2; subst h2; (try simp only [] at h1); omega) | (intro q h1 h2; (try simp only [] at h1 h2); omega) | (intro q h1 h2; have h2 : q = _ := h2; have := hlt q (by (try simp only [] at h1); omega); omega) | (intro q h1 h2; (try simp only [] at h1 h2); rcases h2 with h2 | h2 | h2 <;> first | omega | (subst h2; omega)) | (intro q h1 h2; (try simp only [] at h1 h2); rcases h2 with h2 | h2 | h2 | h2 <;> first | omega | (subst h2; omega)))).ext hxd (by intros; omega) (by first | (intros; (try simp only [] at *); omega) | (intro hh; (try simp only [] at hh); omega) | (intro q h1 h2; (try simp only [] at h1 h2); have := hlt q (by omega); omega) | (intro hh; have hh : _ = _ := hh; subst hh; omega) | (intro q h1 h2; have h2 : q = _ := h2; subst h2; (try simp only [] at h1); omega) | (intro q h1 h2; (try simp only [] at h1 h2); omega) | (intro q h1 h2; have h2 : q = _ := h2; have := hlt q (by (try simp only [] at h1); omega); omega) | (intro q h1 h2; (try simp only [] at h1 h2); rcases h2 with h2 | h2 | h2 <;> first | omega | (subst h2; omega)) | (intro q h1 h2; (try simp only [] at h1 h2); rcases h2 with h2 | h2 | h2 | h2 <;> first | omega | (subst h2; omega)))).mono (fun q hq hS => by rw [hold q (hlt q (by (try simp only [] at hS); omega))]; exact hS)), ((((hMc.ext hx6 (by intros; omega) (by first | (intros; (try simp only [] at *); omega) | (intro hh; (try simp only [] at hh); omega) | (intro q h1 h2; (try simp only [] at h1 h2); have := hlt q (by omega); omega) | (intro hh; have hh : _ = _ := hh; subst hh; omega) | (intro q h1 h2; have h2 : q = _ := h2; subst h2; (try simp only [] at h1); omega) | (intro q h1 h2; (try simp only [] at h1 h2); omega) | (intro q h1 h2; have h2 : q = _ := h2; have := hlt q (by (try simp only [] at h1); omega); omega) | (intro q h1 h2; (try simp only [] at h1 h2); rcases h2 with h2 | h2 | h2 <;> first | omega | (subst h2; omega)) | (intro q h1 h2; (try simp only [] at h1 h2); rcases h2 with h2 | h2 | h2 | h2 <;> first | omega | (subst h2; omega)))).ext hx7 (by intros; omega) (by first | (intros; (try simp only [] at *); omega) | (intro hh; (try simp only [] at hh); omega) | (intro q h1 h2; (try simp only [] at h1 h2); have := hlt q (by omega); omega) | (intro hh; have hh : _ = _ := hh; subst hh; omega) | (intro q h1 h2; have h2 : q = _ := h2; subst h2; (try simp only [] at h1); omega) | (intro q h1 h2; (try simp only [] at h1 h2); omega) | (intro q h1 h2; have h2 : q = _ := h2; have := hlt q (by (try simp only [] at h1); omega); omega) | (intro q h1 h2; (try simp only [] at h1 h2); rcases h2 with h2 | h2 | h2 <;> first | omega | (subst h2; omega)) | (intro q h1 h2; (try simp only [] at h1 h2); rcases h2 with h2 | h2 | h2 | h2 <;> first | omega | (subst h2; omega)))).ext hxd (by intros; omega) (by first | (intros; (try simp only [] at *); omega) | (intro hh; (try simp only [] at hh); omega) | (intro q h1 h2; (try simp only [] at h1 h2); have := hlt q (by omega); omega) | (intro hh; have hh : _ = _ := hh; subst hh; omega) | (intro q h1 h2; have h2 : q = _ := h2; subst h2; (try simp only [] at h1); omega) | (intro q h1 h2; (try simp only [] at h1 h2); omega) | (intro q h1 h2; have h2 : q = _ := h2; have := hlt q (by (try simp only [] at h1); omega); omega) | (intro q h1 h2; (try simp only [] at h1 h2); rcases h2 with h2 | h2 | h2 <;> first | omega | (subst h2; omega)) | (intro q h1 h2; (try simp only [] at h1 h2); rcases h2 with h2 | h2 | h2 | h2 <;> first | omega | (subst h2; omega)))).mono (fun q hq hS => hnew q (by (try simp only [] at hS); omega) (by (try simp only [] at hS); omega)))⟩
        · have h2' : (s0.fs.set k.toNat (f.1, f.1))[j]? = some g := h2
          rw [List.getElem?_set_ne (fun e => hj e.symm)] at h2'
          exact P.fl j q g h1 h2' (fun v a1 a2 => by omega)
end Go.Proofs.YtcdebnppbnmmgaaGreat

namespace Go.Proofs.YtcdebnppbnmmgaaGreat
open Go Go.Proofs.YtcdebnppbnmmgaaGreat.X
set_option linter.unusedVariables false
set_option linter.unusedSimpArgs false
def DS.read (nm : ByteArray) (a n : Int) (s : DS) : List UInt8 × Int :=
  match asc nm s.dir with
  | none => ([], 52)
  | some k => if a < 0 ∨ n < 0 ∨ ((fat s.fs k).1.length : Int) < a ∨ ((fat s.fs k).1.length : Int) - a < n then ([], 5) else (((fat s.fs k).1.drop a.toNat).take n.toNat, 0)
def DS.sizeOf (nm : ByteArray) (s : DS) : Int × Int := match asc nm s.dir with
  | none => (0, 52)
  | some k => ((flen s.fs k : Int), 0)
def DS.fuse (n : Int) (s : DS) : Int × DS := if n < 0 ∨ 1048576 < n then (5, s) else (0, { s with fu := true, lf := n })
set_option maxHeartbeats 4000000 in
set_option maxRecDepth 100000 in
theorem Read_c {col : Nat → Nat} {b bf bd bx bl : Nat} {A : Option Addr} {nn c : Nat} {pt : List Nat} {s0 : DS} (nm : ByteArray) (a n : Int) (w : World) (h : DkB col w b bf bd bx bl A nn c pt s0) (hok : s0.Ok) (han : -9223372036854775808 ≤ a ∧ a ≤ 9223372036854775807 ∧ -9223372036854775808 ≤ n ∧ n ≤ 9223372036854775807) : Ret Tryz.prog 16 #[ptrV b, .string nm, .int .i64 a, .int .i64 n] w fun r w' => ∃ v, r = .tuple #[v, .int .i64 (s0.read nm a n).2] ∧ Mine KB 5 (fun q => w.heap.size ≤ q ∧ q < w'.heap.size) 0 0 w' v (s0.read nm a n).1 ∧ Keep w w' := by
  have hbl := h.B.lt
  have hfl := h.F.lt
  have hdl := h.G.lt
  have hxl := h.X.lt
  have hll := h.L.lt
  have hcb := h.cb
  have hcf := h.cf
  have hcd := h.cd
  have hcx := h.cx
  have hcl := h.cl
  obtain ⟨z1, z2, z3, z4, z5, z6, z7, z8, z9, z10⟩ := h.ne
  have hlt := h.lt
  have hok1 := hok.lf
  have hok2 := hok.few
  refine X.enter Tryz.func16 rfl Tryz.ntmps16 rfl ?_
  refine X.seq ?_
  refine X.region ?_
  refine X.opw X.wN rfl (X.assign rfl) ?_
  refine X.opw X.wN rfl (X.assign rfl) ?_
  refine X.opsEnd ?_
  refine X.seq ?_
  refine X.seq ?_
  refine X.region ?_
  refine X.opw X.wN rfl (X.move rfl) ?_
  refine X.opE X.wN rfl (X.callE (is_c _ h.B) Tryz.call32 rfl rfl) ?_
  rintro _ w1 ⟨rfl, hk1⟩
  have hk1' := hk1.size
  refine X.opw X.wN rfl (X.not_ rfl) ?_
  refine X.opsEnd ?_
  refine X.condF rfl ?_
  refine X.skip ?_
  refine X.seq ?_
  refine X.region ?_
  refine X.opw X.wN rfl (X.move rfl) ?_
  refine X.opw X.wN rfl (X.move (v := .string _) rfl) ?_
  refine X.opE X.wN rfl (X.callE (named_c nm _ (h.B.keep hk1) (h.G.keep hk1) (h.F.keep hk1)) Tryz.call47 rfl rfl) ?_
  rintro _ w2 ⟨rfl, hk2⟩
  have hk2' := hk2.size
  refine X.opw X.wN rfl (X.move rfl) ?_
  refine X.opw X.wN rfl (X.extr rfl rfl) ?_
  refine X.opw X.wN rfl (X.extr rfl rfl) ?_
  refine X.opw X.wN rfl (X.extr rfl rfl) ?_
  refine X.opw X.wN rfl (X.assign (v := .int .i64 _) rfl) ?_
  refine X.opw X.wN rfl (X.assign rfl) ?_
  refine X.opw X.wN rfl (X.assign (v := .bool _) rfl) ?_
  refine X.opsEnd ?_
  refine X.seq ?_
  refine X.seq ?_
  refine X.region ?_
  refine X.opw X.wN rfl (X.move (v := .bool _) rfl) ?_
  refine X.opw X.wN rfl (X.not_ rfl) ?_
  refine X.opsEnd ?_
  refine X.condB rfl (fun hc => ?_) (fun hc => ?_)
  · have hno : asc nm s0.dir = none := by
      cases ha : asc nm s0.dir with
      | none => rfl
      | some k => rw [ha] at hc; simp at hc
    refine X.seq ?_
    refine X.region ?_
    refine X.opw X.wN rfl (X.assign rfl) ?_
    refine X.opw X.wN rfl (X.assign rfl) ?_
    refine X.opsEnd ?_
    refine X.ret2 (v2 := (.int .i64 _)) Tryz.func16 Tryz.results16 rfl rfl ?_
    have e : s0.read nm a n = ([], 52) := by simp only [DS.read, hno]
    rw [e]
    exact ⟨_, rfl, Mine.nil _ _ _ _ _ _, (hk1.trans hk2)⟩
  · obtain ⟨k, hfa⟩ : ∃ k, asc nm s0.dir = some k := by
      cases ha : asc nm s0.dir with
      | none => rw [ha] at hc; simp at hc
      | some k => exact ⟨k, rfl⟩
    obtain ⟨hka, hkb, _⟩ := hok.dir _ (asc_some hfa)
    have hka : 0 ≤ k := hka
    have hkb : k < s0.fs.length := hkb
    obtain ⟨pf, f, A1, n1, c1, A2, n2, c2, hfb, hpf, hff, hn1, hn2, hfl1, hpc, hBf, hM1, hM2⟩ := h.at_ hka hkb
    have hlf := hok.len hff
    have hpl2 := hBf.lt
    rw [hfa, Option.getD_some, hfb, Option.getD_some]
    have hfat := fat_at hff
    have hcc1 := (hM1.rd KB_flat).1
    refine X.skip ?_
    refine X.seq ?_
    refine X.seq ?_
    refine X.region ?_
    refine X.opw X.wN rfl (X.move (v := .int .i64 _) rfl) ?_
    refine X.opw X.wN rfl (X.move (v := .int .i64 _) rfl) ?_
    refine X.opw X.wN rfl (X.minII rfl rfl) ?_
    refine X.opP X.wN rfl rfl (X.lss rfl rfl) (fun h28 => ?_) (fun h28 => ?_)
    · have h28 : (if n < a then n else a) < 0 := h28
      have h28 : a < 0 ∨ n < 0 := by split at h28 <;> omega
      refine X.opw X.wN rfl (X.move (v := .bool true) rfl) ?_
      refine X.opS rfl rfl rfl rfl rfl ?_
      refine X.opS rfl rfl rfl rfl rfl ?_
      refine X.opS rfl rfl rfl rfl rfl ?_
      refine X.opS rfl rfl rfl rfl rfl ?_
      refine X.opS rfl rfl rfl rfl rfl ?_
      refine X.opS rfl rfl rfl rfl rfl ?_
      refine X.opS rfl rfl rfl rfl rfl ?_
      refine X.opw X.wN rfl (X.pickT (v := .bool true) rfl rfl) ?_
      refine X.opw X.wN rfl (X.move (v := .bool true) rfl) ?_
      refine X.opS rfl rfl rfl rfl rfl ?_
      refine X.opS rfl rfl rfl rfl rfl ?_
      refine X.opS rfl rfl rfl rfl rfl ?_
      refine X.opS rfl rfl rfl rfl rfl ?_
      refine X.opS rfl rfl rfl rfl rfl ?_
      refine X.opS rfl rfl rfl rfl rfl ?_
      refine X.opS rfl rfl rfl rfl rfl ?_
      refine X.opS rfl rfl rfl rfl rfl ?_
      refine X.opS rfl rfl rfl rfl rfl ?_
      refine X.opw X.wN rfl (X.pickT (v := .bool true) rfl rfl) ?_
      refine X.opsEnd ?_
      refine X.condT rfl ?_
      refine X.seq ?_
      refine X.region ?_
      refine X.opw X.wN rfl (X.assign rfl) ?_
      refine X.opw X.wN rfl (X.assign rfl) ?_
      refine X.opsEnd ?_
      refine X.ret2 (v2 := (.int .i64 _)) Tryz.func16 Tryz.results16 rfl rfl ?_
      have e : s0.read nm a n = ([], 5) := by
        simp only [DS.read, hfa, hfat]
        rw [if_pos (by omega)]
      rw [e]
      exact ⟨_, rfl, Mine.nil _ _ _ _ _ _, (hk1.trans hk2)⟩
    · have h28 : ¬ (if n < a then n else a) < 0 := h28
      have h28 : 0 ≤ a ∧ 0 ≤ n := by split at h28 <;> omega
      refine X.opw X.wN rfl (X.move (v := .bool false) rfl) ?_
      refine X.opw (X.wG rfl rfl rfl) rfl (X.move (v := .int .i64 _) rfl) ?_
      refine X.opw (X.wG rfl rfl rfl) rfl (X.move rfl) ?_
      refine X.opw (X.wG rfl rfl rfl) rfl (X.nilCk rfl) ?_
      refine X.opw (X.wG rfl rfl rfl) rfl (X.fldB (j := 0) Tryz.underlying87 rfl rfl Tryz.sizeOf31 rfl) ?_
      refine X.opw (X.wG rfl rfl rfl) rfl (X.load1B Tryz.isAgg31 (hBf.keep (hk1.trans hk2)) rfl rfl) ?_
      refine X.opw (X.wG rfl rfl rfl) rfl (X.lenSl Tryz.underlying31 rfl) ?_
      refine X.opP (X.wG rfl rfl rfl) rfl rfl (X.gtr rfl rfl) (fun h36 => ?_) (fun h36 => ?_)
      · refine X.opw X.wN rfl (X.pickF (v := .bool true) rfl rfl) ?_
        refine X.opw X.wN rfl (X.move (v := .bool true) rfl) ?_
        refine X.opS rfl rfl rfl rfl rfl ?_
        refine X.opS rfl rfl rfl rfl rfl ?_
        refine X.opS rfl rfl rfl rfl rfl ?_
        refine X.opS rfl rfl rfl rfl rfl ?_
        refine X.opS rfl rfl rfl rfl rfl ?_
        refine X.opS rfl rfl rfl rfl rfl ?_
        refine X.opS rfl rfl rfl rfl rfl ?_
        refine X.opS rfl rfl rfl rfl rfl ?_
        refine X.opS rfl rfl rfl rfl rfl ?_
        refine X.opw X.wN rfl (X.pickT (v := .bool true) rfl rfl) ?_
        refine X.opsEnd ?_
        refine X.condT rfl ?_
        refine X.seq ?_
        refine X.region ?_
        refine X.opw X.wN rfl (X.assign rfl) ?_
        refine X.opw X.wN rfl (X.assign rfl) ?_
        refine X.opsEnd ?_
        refine X.ret2 (v2 := (.int .i64 _)) Tryz.func16 Tryz.results16 rfl rfl ?_
        have e : s0.read nm a n = ([], 5) := by
          simp only [DS.read, hfa, hfat]
          rw [if_pos (by omega)]
        rw [e]
        exact ⟨_, rfl, Mine.nil _ _ _ _ _ _, (hk1.trans hk2)⟩
      · refine X.opw X.wN rfl (X.pickF (v := .bool false) rfl rfl) ?_
        refine X.opw X.wN rfl (X.move (v := .bool false) rfl) ?_
        refine X.opw (X.wG rfl rfl rfl) rfl (X.move (v := .int .i64 _) rfl) ?_
        refine X.opw (X.wG rfl rfl rfl) rfl (X.move rfl) ?_
        refine X.opw (X.wG rfl rfl rfl) rfl (X.nilCk rfl) ?_
        refine X.opw (X.wG rfl rfl rfl) rfl (X.fldB (j := 0) Tryz.underlying87 rfl rfl Tryz.sizeOf31 rfl) ?_
        refine X.opw (X.wG rfl rfl rfl) rfl (X.load1B Tryz.isAgg31 (hBf.keep (hk1.trans hk2)) rfl rfl) ?_
        refine X.opw (X.wG rfl rfl rfl) rfl (X.lenSl Tryz.underlying31 rfl) ?_
        refine X.opw (X.wG rfl rfl rfl) rfl (X.move (v := .int .i64 _) rfl) ?_
        refine X.opw (X.wG rfl rfl rfl) rfl (X.sub rfl rfl (X.w_i64 (by omega))) ?_
        refine X.opP (X.wG rfl rfl rfl) rfl rfl (X.gtr rfl rfl) (fun h47 => ?_) (fun h47 => ?_)
        · refine X.opw X.wN rfl (X.pickF (v := .bool true) rfl rfl) ?_
          refine X.opsEnd ?_
          refine X.condT rfl ?_
          refine X.seq ?_
          refine X.region ?_
          refine X.opw X.wN rfl (X.assign rfl) ?_
          refine X.opw X.wN rfl (X.assign rfl) ?_
          refine X.opsEnd ?_
          refine X.ret2 (v2 := (.int .i64 _)) Tryz.func16 Tryz.results16 rfl rfl ?_
          have e : s0.read nm a n = ([], 5) := by
            simp only [DS.read, hfa, hfat]
            rw [if_pos (by omega)]
          rw [e]
          exact ⟨_, rfl, Mine.nil _ _ _ _ _ _, (hk1.trans hk2)⟩
        · refine X.opw X.wN rfl (X.pickF (v := .bool false) rfl rfl) ?_
          refine X.opsEnd ?_
          refine X.condF rfl ?_
          refine X.skip ?_
          refine X.seq ?_
          refine X.region ?_
          refine X.opw X.wN rfl (X.move rfl) ?_
          refine X.opw X.wN rfl (X.nilCk rfl) ?_
          refine X.opw X.wN rfl (X.fldB (j := 0) Tryz.underlying87 rfl rfl Tryz.sizeOf31 rfl) ?_
          refine X.opw X.wN rfl (X.load1B Tryz.isAgg31 (hBf.keep (hk1.trans hk2)) rfl rfl) ?_
          refine X.opw X.wN rfl (X.move (v := .int .i64 _) rfl) ?_
          refine X.opw X.wN rfl (X.move (v := .int .i64 _) rfl) ?_
          refine X.opw X.wN rfl (X.move (v := .int .i64 _) rfl) ?_
          refine X.opw X.wN rfl (X.add rfl rfl (X.w_i64 (by omega))) ?_
          refine X.opw X.wN rfl (X.cutLH Tryz.underlying31 Tryz.sizeOf5 rfl rfl rfl ⟨by omega, by omega, by omega⟩) ?_
          refine X.opE X.wN rfl (X.callE (CloneB_c _ (((((hM1.rd KB_flat).2.take (a + n).toNat (by omega)).drop a.toNat c1 (by omega) (by omega))).keep (hk1.trans hk2)) (by omega)) Tryz.call54 rfl rfl) ?_
          rintro _ w3 ⟨A', c', rfl, hcc, hMc, hk3⟩
          have hk3' := hk3.size
          refine X.opw X.wN rfl (X.assign rfl) ?_
          refine X.opw X.wN rfl (X.assign rfl) ?_
          refine X.opsEnd ?_
          refine X.ret2 (v2 := (.int .i64 _)) Tryz.func16 Tryz.results16 rfl rfl ?_
          have e : s0.read nm a n = ((f.1.take (a + n).toNat).drop a.toNat, 0) := by
            simp only [DS.read, hfa, hfat]
            rw [if_neg (by omega), List.drop_take, show (a + n).toNat - a.toNat = n.toNat by omega]
          rw [e]
          exact ⟨_, rfl, hMc.mono (fun q hq h => ⟨by omega, h.2⟩), ((hk1.trans hk2).trans hk3)⟩
section
variable {col : Nat → Nat} {w : World} {b : Nat} {s : DS}
theorem sizeR_c (h : DkR col w b s) (hok : s.Ok) (nm : ByteArray) : Ret Tryz.prog 38 #[ptrV b, .string nm] w fun r w' => r = .tuple #[.int .i64 (s.sizeOf nm).1, .int .i64 (s.sizeOf nm).2] ∧ Keep w w' := by
  obtain ⟨bf, bd, bx, bl, A, n, c, pt, h⟩ := h
  have hfile : ∀ k, asc nm s.dir = some k → ∃ pf f A1 n1 c1 A2 n2 c2, asc k (fmapF 0 pt) = some (ptrV pf) ∧ pt[k.toNat]? = some pf ∧ s.fs[k.toNat]? = some f ∧ n1 = f.1.length ∧ n2 = f.2.length ∧ flen s.fs k = n1 ∧ col pf = 7 + 3 * k.toNat ∧ Blk w pf (fiL A1 n1 c1 A2 n2 c2) 87 ∧ Row KB 5 (fun q => col q = 8 + 3 * k.toNat) 0 0 w (.slice A1 n1 c1) f.1 ∧ Mine KB 5 (fun q => col q = 9 + 3 * k.toNat) 0 0 w (.slice A2 n2 c2) f.2 := fun k hk => by
    obtain ⟨h1, h2, _⟩ := hok.dir _ (asc_some hk)
    exact h.at_ h1 h2
  refine (Size_c nm w h.B h.G h.F fun k hk => ?_).mono ?_
  · obtain ⟨pf, f, A1, n1, c1, A2, n2, c2, e1, _, _, _, _, _, _, e2, _, _⟩ := hfile k hk
    exact ⟨pf, A1, n1, c1, A2, n2, c2, e1, e2⟩
  · rintro r w' ⟨h1, hk⟩
    refine ⟨?_, hk⟩
    rcases h1 with ⟨h2, rfl⟩ | ⟨k, pf, A1, n1, c1, A2, n2, c2, h2, h3, h4, rfl⟩
    · simp only [DS.sizeOf, h2]
    · obtain ⟨pf', f, A1', n1', c1', A2', n2', c2', e1, _, _, _, _, e6, _, e2, _, _⟩ := hfile k h2
      rw [h3] at e1
      cases e1
      unfold Blk at h4 e2
      rw [h4] at e2
      simp at e2
      simp only [DS.sizeOf, h2, e6, e2.1.2.1]
theorem fuseR_c (h : DkR col w b s) (hok : s.Ok) (i : Int) : Ret Tryz.prog 27 #[ptrV b, .int .i64 i] w fun r w' => r = .int .i64 (s.fuse i).1 ∧ ∃ col', DkR col' w' b (s.fuse i).2 ∧ Stp col w col' w' := by
  obtain ⟨bf, bd, bx, bl, A, n, c, pt, h⟩ := h
  refine (Fuse_c i w h.B).mono ?_
  rintro r w' (⟨h1, rfl, hk⟩ | ⟨h1, rfl, hB, hx⟩)
  · rw [DS.fuse, if_pos h1]
    exact ⟨rfl, col, (h.keep hk).r, Stp.keep hk⟩
  · rw [DS.fuse, if_neg h1]
    have P := h.part (col' := col) (fun v => v = 1) hx (fun _ _ => rfl) (fun q hq ht => by rw [show q = b from ht]; exact h.cb)
    exact ⟨rfl, col, ⟨bf, bd, bx, bl, A, n, c, pt, hB, P.F (by omega), P.G (by omega), P.X (by omega), P.L (by omega), P.M (by omega), P.cb, P.cf, P.cd, P.cx, P.cl, fun q hq => Nat.lt_of_lt_of_le (h.lt q hq) hx.size, P.pl, fun k q f a1 a2 => P.fl k q f a1 a2 (fun j _ _ => by omega)⟩, ⟨fun _ _ => rfl, hx.mono fun q _ t => by rw [show q = b from t, h.cb]; decide⟩⟩
theorem DkR.blk (h : DkR col w b s) : ∃ bf bd bx bl A n c, Blk w b (dkL s.rm (some bf) (s.fs.length : Int) (some bd) (some bx) A n c (some bl) s.fu s.lf) 71 := let ⟨bf, bd, bx, bl, A, n, c, pt, h⟩ := h; ⟨bf, bd, bx, bl, A, n, c, h.B⟩
theorem downR_c (h : DkR col w b s) : Ret Tryz.prog 36 #[ptrV b] w fun r w' => r = .bool s.down ∧ Keep w w' := let ⟨_, _, _, _, _, _, _, hB⟩ := h.blk; Down_c w hB
theorem createR_c (h : DkR col w b s) (hok : s.Ok) (nm : ByteArray) (hnm : nm.size ≤ 9223372036854775807) (hsz : s.size ≤ 100000) : Ret Tryz.prog 12 #[ptrV b, .string nm] w fun r w' => r = .int .i64 (s.create nm).1 ∧ ∃ col', DkR col' w' b (s.create nm).2 ∧ Stp col w col' w' := let ⟨_, _, _, _, _, _, _, _, h⟩ := h; Create_c nm w h hok hnm hsz
theorem deleteR_c (h : DkR col w b s) (hok : s.Ok) (nm : ByteArray) (hnm : nm.size ≤ 9223372036854775807) (hsz : s.size ≤ 100000) : Ret Tryz.prog 23 #[ptrV b, .string nm] w fun r w' => r = .int .i64 (s.delete nm).1 ∧ ∃ col', DkR col' w' b (s.delete nm).2 ∧ Stp col w col' w' := let ⟨_, _, _, _, _, _, _, _, h⟩ := h; Delete_c nm w h hok hnm hsz
theorem renameR_c (h : DkR col w b s) (hok : s.Ok) (nm to : ByteArray) (hto : to.size ≤ 9223372036854775807) (hsz : s.size ≤ 100000) : Ret Tryz.prog 21 #[ptrV b, .string nm, .string to] w fun r w' => r = .int .i64 (s.rename nm to).1 ∧ ∃ col', DkR col' w' b (s.rename nm to).2 ∧ Stp col w col' w' := let ⟨_, _, _, _, _, _, _, _, h⟩ := h; Rename_c nm to w h hok hto hsz
theorem syncDirR_c (h : DkR col w b s) (hok : s.Ok) : Ret Tryz.prog 25 #[ptrV b] w fun r w' => r = .int .i64 s.syncDir.1 ∧ ∃ col', DkR col' w' b s.syncDir.2 ∧ Stp col w col' w' := let ⟨_, _, _, _, _, _, _, _, h⟩ := h; SyncDir_c w h hok
theorem syncR_c (h : DkR col w b s) (hok : s.Ok) (nm : ByteArray) (hnm : nm.size ≤ 9223372036854775807) : Ret Tryz.prog 19 #[ptrV b, .string nm] w fun r w' => r = .int .i64 (s.sync nm).1 ∧ ∃ col', DkR col' w' b (s.sync nm).2 ∧ Stp col w col' w' := let ⟨_, _, _, _, _, _, _, _, h⟩ := h; Sync_c nm w h hok hnm
theorem readR_c (h : DkR col w b s) (hok : s.Ok) (nm : ByteArray) (a n : Int) (han : -9223372036854775808 ≤ a ∧ a ≤ 9223372036854775807 ∧ -9223372036854775808 ≤ n ∧ n ≤ 9223372036854775807) : Ret Tryz.prog 16 #[ptrV b, .string nm, .int .i64 a, .int .i64 n] w fun r w' => ∃ v, r = .tuple #[v, .int .i64 (s.read nm a n).2] ∧ Mine KB 5 (fun q => w.heap.size ≤ q ∧ q < w'.heap.size) 0 0 w' v (s.read nm a n).1 ∧ Keep w w' := let ⟨_, _, _, _, _, _, _, _, h⟩ := h; Read_c nm a n w h hok han
end
end Go.Proofs.YtcdebnppbnmmgaaGreat

namespace Go.Proofs.YtcdebnppbnmmgaaGreat
open Go Go.Proofs.YtcdebnppbnmmgaaGreat.X
set_option linter.unusedVariables false
set_option linter.unusedSimpArgs false
theorem E8e : ByteInfo Tryz.prog 5 := ByteInfo.of (by kernel_rfl)
/-- Bytes written into bytes, at a place. -/
def wrt (b : List UInt8) (a : Nat) (x : List UInt8) : List UInt8 := (fun y : List UInt8 => y.take a ++ x ++ y.drop (a + x.length)) (b ++ List.replicate (max b.length (a + x.length) - b.length) 0)
/-- Sectors marked, so many from one on. -/
def markL (k : Int) : Nat → Nat → LS → LS
  | _, 0, l => l
  | s, n + 1, l => markL k (s + 1) n (put (k, (s : Int)) true l)
def secs (n : Nat) : Nat := (n + 63) / 64
def touched (a n : Nat) : Nat := if n = 0 then 0 else secs (a + n) - a / 64
def DS.write (nm : ByteArray) (a : Int) (x : List UInt8) (s : DS) : Int × DS :=
  if s.down = true then (54, s) else match asc nm s.dir with
  | none => (52, s)
  | some k => if a < 0 ∨ ((fat s.fs k).1.length : Int) < a then (5, s) else if 1048576 - a < (x.length : Int) then (2, s)
    else if s.rm < (s.used : Int) + (secs (max (fat s.fs k).1.length (a.toNat + x.length)) : Int) - (secs (fat s.fs k).1.length : Int) then (53, s)
    else (0, ({ s with fs := s.fs.set k.toNat (wrt (fat s.fs k).1 a.toNat x, (fat s.fs k).2), ls := markL k (a.toNat / 64) (touched a.toNat x.length) s.ls } : DS).did)
theorem wrt_len (b : List UInt8) (a : Nat) (x : List UInt8) (h : a ≤ b.length) : (wrt b a x).length = max b.length (a + x.length) := by
  simp only [wrt, List.length_append, List.length_take, List.length_drop, List.length_replicate]; omega
set_option maxHeartbeats 4000000 in
set_option maxRecDepth 100000 in
theorem Write_c {col : Nat → Nat} {b bf bd bx bl : Nat} {A : Option Addr} {n c : Nat} {pt : List Nat} {s0 : DS} {lo hi m2 cy : Nat} {Ay : Option Addr} {y : List UInt8} (nm : ByteArray) (a : Int) (w : World) (h : DkB col w b bf bd bx bl A n c pt s0) (hok : s0.Ok) (ha : -9223372036854775808 ≤ a ∧ a ≤ 9223372036854775807) (hy : Sl KB lo hi w Ay m2 y) (hy0 : ∀ q, lo ≤ q → q < hi → col q = 0 ∧ q < w.heap.size) (hym : m2 ≤ 1000000000) : Ret Tryz.prog 13 #[ptrV b, .string nm, .int .i64 a, .slice Ay m2 cy] w fun r w' => r = .int .i64 (s0.write nm a y).1 ∧ ∃ col', DkR col' w' b (s0.write nm a y).2 ∧ Stp col w col' w' := by
  have hbl := h.B.lt
  have hfl := h.F.lt
  have hdl := h.G.lt
  have hxl := h.X.lt
  have hll := h.L.lt
  have hcb := h.cb
  have hcf := h.cf
  have hcd := h.cd
  have hcx := h.cx
  have hcl := h.cl
  obtain ⟨z1, z2, z3, z4, z5, z6, z7, z8, z9, z10⟩ := h.ne
  have hlt := h.lt
  have hok1 := hok.lf
  have hok2 := hok.few
  have hyl := hy.len
  have hub := hok.used
  have hrm := hok.rm
  refine X.enter Tryz.func13 rfl Tryz.ntmps13 rfl ?_
  refine X.seq ?_
  refine X.region ?_
  refine X.opw X.wN rfl (X.assign rfl) ?_
  refine X.opsEnd ?_
  refine X.seq ?_
  refine X.seq ?_
  refine X.region ?_
  refine X.opw X.wN rfl (X.move rfl) ?_
  refine X.opE X.wN rfl (X.callE (may_c _ h.B) Tryz.call43 rfl rfl) ?_
  rintro _ w1 ⟨rfl, hk1⟩
  have hk1' := hk1.size
  refine X.opw X.wN rfl (X.assign (v := .int .i64 _) rfl) ?_
  refine X.opsEnd ?_
  refine X.seq ?_
  refine X.region ?_
  refine X.opw X.wN rfl (X.move (v := .int .i64 _) rfl) ?_
  refine X.opP X.wN rfl rfl (X.neI rfl rfl) (fun h19 => ?_) (fun h19 => ?_)
  · have hd : (s0.fu && decide (s0.lf ≤ 0)) = true := by
      cases hq : (s0.fu && decide (s0.lf ≤ 0)) with
      | true => rfl
      | false => rw [hq] at h19; simp at h19
    have hD : s0.down = true := hd
    refine X.opsEnd ?_
    refine X.condT rfl ?_
    refine X.seq ?_
    refine X.region ?_
    refine X.opw X.wN rfl (X.move (v := .int .i64 _) rfl) ?_
    refine X.opw X.wN rfl (X.assign (v := .int .i64 _) rfl) ?_
    refine X.opsEnd ?_
    refine X.ret1 (v := (.int .i64 _)) Tryz.func13 Tryz.results13 rfl ?_
    have e : s0.write nm a y = (54, s0) := by simp only [DS.write, if_pos hD]
    rw [e]
    exact ⟨by rw [if_pos hd], col, (h.keep hk1).r, Stp.keep hk1⟩
  · have hd : ¬ (s0.fu && decide (s0.lf ≤ 0)) = true := by
      cases hq : (s0.fu && decide (s0.lf ≤ 0)) with
      | false => simp
      | true => rw [hq] at h19; simp at h19
    have hD : ¬ s0.down = true := hd
    refine X.opsEnd ?_
    refine X.condF rfl ?_
    refine X.skip ?_
    refine X.seq ?_
    refine X.region ?_
    refine X.opw X.wN rfl (X.move rfl) ?_
    refine X.opw X.wN rfl (X.move (v := .string _) rfl) ?_
    refine X.opE X.wN rfl (X.callE (named_c nm _ (h.B.keep hk1) (h.G.keep hk1) (h.F.keep hk1)) Tryz.call47 rfl rfl) ?_
    rintro _ w2 ⟨rfl, hk2⟩
    have hk2' := hk2.size
    refine X.opw X.wN rfl (X.move rfl) ?_
    refine X.opw X.wN rfl (X.extr rfl rfl) ?_
    refine X.opw X.wN rfl (X.extr rfl rfl) ?_
    refine X.opw X.wN rfl (X.extr rfl rfl) ?_
    refine X.opw X.wN rfl (X.assign (v := .int .i64 _) rfl) ?_
    refine X.opw X.wN rfl (X.assign rfl) ?_
    refine X.opw X.wN rfl (X.assign (v := .bool _) rfl) ?_
    refine X.opsEnd ?_
    refine X.seq ?_
    refine X.block ?_
    refine X.seq ?_
    refine X.region ?_
    refine X.opw X.wN rfl (X.move (v := .bool _) rfl) ?_
    refine X.opw X.wN rfl (X.not_ rfl) ?_
    refine X.opw X.wN rfl (X.assign (v := .bool _) rfl) ?_
    refine X.opsEnd ?_
    refine X.condB rfl (fun hc => ?_) (fun hc => ?_)
    · have hno : asc nm s0.dir = none := by
        cases ha : asc nm s0.dir with
        | none => rfl
        | some k => rw [ha] at hc; simp at hc
      refine X.seq ?_
      refine X.region ?_
      refine X.opw X.wN rfl (X.assign rfl) ?_
      refine X.opsEnd ?_
      refine X.ret1 (v := (.int .i64 _)) Tryz.func13 Tryz.results13 rfl ?_
      have e : s0.write nm a y = (52, s0) := by simp only [DS.write, if_neg hD, hno]
      rw [e]
      exact ⟨rfl, col, (h.keep (hk1.trans hk2)).r, Stp.keep (hk1.trans hk2)⟩
    · obtain ⟨k, hfa⟩ : ∃ k, asc nm s0.dir = some k := by
        cases ha : asc nm s0.dir with
        | none => rw [ha] at hc; simp at hc
        | some k => exact ⟨k, rfl⟩
      obtain ⟨hka, hkb, _⟩ := hok.dir _ (asc_some hfa)
      have hka : 0 ≤ k := hka
      have hkb : k < s0.fs.length := hkb
      obtain ⟨pf, f, A1, n1, c1, A2, n2, c2, hfb, hpf, hff, hn1, hn2, hfl1, hpc, hBf, hM1, hM2⟩ := h.at_ hka hkb
      have hlf := hok.len hff
      have hpl2 := hBf.lt
      rw [hfa, Option.getD_some, hfb, Option.getD_some]
      have hfat := fat_at hff
      have hfl2 : f.1.length = n1 := hn1.symm
      refine X.seq ?_
      refine X.region ?_
      refine X.opw X.wN rfl (X.move (v := .int .i64 _) rfl) ?_
      refine X.opP X.wN rfl rfl (X.lss rfl rfl) (fun h33 => ?_) (fun h33 => ?_)
      · refine X.opw X.wN rfl (X.move (v := .bool true) rfl) ?_
        refine X.opS rfl rfl rfl rfl rfl ?_
        refine X.opS rfl rfl rfl rfl rfl ?_
        refine X.opS rfl rfl rfl rfl rfl ?_
        refine X.opS rfl rfl rfl rfl rfl ?_
        refine X.opS rfl rfl rfl rfl rfl ?_
        refine X.opS rfl rfl rfl rfl rfl ?_
        refine X.opS rfl rfl rfl rfl rfl ?_
        refine X.opw X.wN rfl (X.pickT (v := .bool true) rfl rfl) ?_
        refine X.opw X.wN rfl (X.assign (v := .bool true) rfl) ?_
        refine X.opsEnd ?_
        refine X.condT rfl ?_
        refine X.seq ?_
        refine X.region ?_
        refine X.opw X.wN rfl (X.assign rfl) ?_
        refine X.opsEnd ?_
        refine X.ret1 (v := (.int .i64 _)) Tryz.func13 Tryz.results13 rfl ?_
        have e : s0.write nm a y = (5, s0) := by
          simp only [DS.write, if_neg hD, hfa, hfat]
          rw [if_pos (by omega)]
        rw [e]
        exact ⟨rfl, col, (h.keep (hk1.trans hk2)).r, Stp.keep (hk1.trans hk2)⟩
      · obtain ⟨p, rfl⟩ := Int.eq_ofNat_of_zero_le (show 0 ≤ a by omega)
        refine X.opw X.wN rfl (X.move (v := .bool false) rfl) ?_
        refine X.opw (X.wG rfl rfl rfl) rfl (X.move (v := .int .i64 _) rfl) ?_
        refine X.opw (X.wG rfl rfl rfl) rfl (X.move rfl) ?_
        refine X.opw (X.wG rfl rfl rfl) rfl (X.nilCk rfl) ?_
        refine X.opw (X.wG rfl rfl rfl) rfl (X.fldB (j := 0) Tryz.underlying87 rfl rfl Tryz.sizeOf31 rfl) ?_
        refine X.opw (X.wG rfl rfl rfl) rfl (X.load1B Tryz.isAgg31 (hBf.keep (hk1.trans hk2)) rfl rfl) ?_
        refine X.opw (X.wG rfl rfl rfl) rfl (X.lenSl Tryz.underlying31 rfl) ?_
        refine X.opP (X.wG rfl rfl rfl) rfl rfl (X.gtr rfl rfl) (fun h41 => ?_) (fun h41 => ?_)
        · refine X.opw X.wN rfl (X.pickF (v := .bool true) rfl rfl) ?_
          refine X.opw X.wN rfl (X.assign (v := .bool true) rfl) ?_
          refine X.opsEnd ?_
          refine X.condT rfl ?_
          refine X.seq ?_
          refine X.region ?_
          refine X.opw X.wN rfl (X.assign rfl) ?_
          refine X.opsEnd ?_
          refine X.ret1 (v := (.int .i64 _)) Tryz.func13 Tryz.results13 rfl ?_
          have e : s0.write nm (p : Int) y = (5, s0) := by
            simp only [DS.write, if_neg hD, hfa, hfat]
            rw [if_pos (by omega)]
          rw [e]
          exact ⟨rfl, col, (h.keep (hk1.trans hk2)).r, Stp.keep (hk1.trans hk2)⟩
        · refine X.opw X.wN rfl (X.pickF (v := .bool false) rfl rfl) ?_
          refine X.opw X.wN rfl (X.assign (v := .bool false) rfl) ?_
          refine X.opsEnd ?_
          refine X.condF rfl ?_
          refine X.seq ?_
          refine X.region ?_
          refine X.opw X.wN rfl (X.move rfl) ?_
          refine X.opw X.wN rfl (X.lenSl Tryz.underlying31 rfl) ?_
          refine X.opw X.wN rfl (X.move (v := .int .i64 _) rfl) ?_
          refine X.opw X.wN rfl (X.sub rfl rfl (X.w_i64 (by omega))) ?_
          refine X.opP X.wN rfl rfl (X.gtr rfl rfl) (fun h48 => ?_) (fun h48 => ?_)
          · refine X.opw X.wN rfl (X.assign (v := .bool true) rfl) ?_
            refine X.opsEnd ?_
            refine X.condT rfl ?_
            refine X.seq ?_
            refine X.region ?_
            refine X.opw X.wN rfl (X.assign rfl) ?_
            refine X.opsEnd ?_
            refine X.ret1 (v := (.int .i64 _)) Tryz.func13 Tryz.results13 rfl ?_
            have e : s0.write nm (p : Int) y = (2, s0) := by
              simp only [DS.write, if_neg hD, hfa, hfat]
              rw [if_neg (by omega), if_pos (by omega)]
            rw [e]
            exact ⟨rfl, col, (h.keep (hk1.trans hk2)).r, Stp.keep (hk1.trans hk2)⟩
          · refine X.opw X.wN rfl (X.assign (v := .bool false) rfl) ?_
            refine X.opsEnd ?_
            refine X.condF rfl ?_
            refine X.skip ?_
            refine X.inBlock ?_
            refine X.seq ?_
            refine X.region ?_
            refine X.opw X.wN rfl (X.move (v := .int .i64 _) rfl) ?_
            refine X.opw X.wN rfl (X.move rfl) ?_
            refine X.opw X.wN rfl (X.lenSl Tryz.underlying31 rfl) ?_
            refine X.opw X.wN rfl (X.add (c := ((p + m2 : Nat) : Int)) rfl rfl (by rw [X.w_i64 (by omega)]; omega)) ?_
            refine X.opw X.wN rfl (X.assign (v := .int .i64 _) rfl) ?_
            refine X.opsEnd ?_
            refine X.seq ?_
            refine X.region ?_
            refine X.opw X.wN rfl (X.move rfl) ?_
            refine X.opw X.wN rfl (X.nilCk rfl) ?_
            refine X.opw X.wN rfl (X.fldB (j := 0) Tryz.underlying87 rfl rfl Tryz.sizeOf31 rfl) ?_
            refine X.opw X.wN rfl (X.load1B Tryz.isAgg31 (hBf.keep (hk1.trans hk2)) rfl rfl) ?_
            refine X.opw X.wN rfl (X.lenSl Tryz.underlying31 rfl) ?_
            refine X.opw X.wN rfl (X.move (v := .int .i64 _) rfl) ?_
            refine X.opw X.wN rfl (X.maxII (c := ((max n1 (p + m2) : Nat) : Int)) rfl rfl (by split <;> omega)) ?_
            refine X.opw X.wN rfl (X.assign (v := .int .i64 _) rfl) ?_
            refine X.opsEnd ?_
            refine X.seq ?_
            refine X.seq ?_
            refine X.regionD (fun _ => False) 17 (by kernel_rfl) (by kernel_rfl) (fun w3 hk3 hz3 => ?_)
            refine X.dTake 0 rfl (by kernel_rfl) (by kernel_rfl) (by kernel_rfl) (X.dwN rfl) (fun w' hk' => X.move rfl) ?_
            refine X.dTake 2 rfl (by kernel_rfl) (by kernel_rfl) (by kernel_rfl) (X.dwN rfl) (fun w' hk' => X.move (v := .int .i64 _) rfl) ?_
            refine X.dTake 5 rfl (by kernel_rfl) (by kernel_rfl) (by kernel_rfl) (X.dwN rfl) (fun w' hk' => X.move rfl) ?_
            refine X.dTake 6 rfl (by kernel_rfl) (by kernel_rfl) (by kernel_rfl) (X.dwN rfl) (fun w' hk' => X.nilCk rfl) ?_
            refine X.dTake 7 rfl (by kernel_rfl) (by kernel_rfl) (by kernel_rfl) (X.dwN rfl) (fun w' hk' => X.fldB (j := 0) Tryz.underlying87 rfl rfl Tryz.sizeOf31 rfl) ?_
            refine X.dTake 8 rfl (by kernel_rfl) (by kernel_rfl) (by kernel_rfl) (X.dwN rfl) (fun w' hk' => X.load1B Tryz.isAgg31 (hBf.keep (((hk1.trans hk2).trans hk3).trans hk')) rfl rfl) ?_
            refine X.dTake 9 rfl (by kernel_rfl) (by kernel_rfl) (by kernel_rfl) (X.dwN rfl) (fun w' hk' => X.lenSl Tryz.underlying31 rfl) ?_
            refine X.dTake 12 rfl (by kernel_rfl) (by kernel_rfl) (by kernel_rfl) (X.dwN rfl) (fun w' hk' => X.move rfl) ?_
            refine X.dTake 13 rfl (by kernel_rfl) (by kernel_rfl) (by kernel_rfl) (X.dwN rfl) (fun w' hk' => X.nilCk rfl) ?_
            refine X.dTake 14 rfl (by kernel_rfl) (by kernel_rfl) (by kernel_rfl) (X.dwN rfl) (fun w' hk' => X.fldB (j := 0) Tryz.underlying71 rfl rfl Tryz.sizeOf3 rfl) ?_
            refine X.dTake 15 rfl (by kernel_rfl) (by kernel_rfl) (by kernel_rfl) (X.dwN rfl) (fun w' hk' => X.load1B Tryz.isAgg3 (h.B.keep (((hk1.trans hk2).trans hk3).trans hk')) rfl rfl) ?_
            refine X.dE (i := 1) (by kernel_rfl) rfl (X.dwN rfl) (X.callE (used_c _ (h.keep ((hk1.trans hk2).trans hk3)) hok) Tryz.call33 rfl rfl) (by rintro _ w4 ⟨rfl, hk4⟩ _; exact hk4.mono (fun _ _ h => h.elim)) ?_
            rintro _ w4 ⟨rfl, hk4⟩
            have hk4' := hk4.size
            refine X.dE (i := 3) (by kernel_rfl) rfl (X.dwN rfl) (X.callE (sectors_c _ _ (by omega)) Tryz.call48 rfl rfl) (by rintro _ w5 ⟨rfl, hk5⟩ _; exact hk5.mono (fun _ _ h => h.elim)) ?_
            rintro _ w5 ⟨rfl, hk5⟩
            have hk5' := hk5.size
            refine X.dTake 4 rfl (by kernel_rfl) (by kernel_rfl) (by kernel_rfl) (X.dwN rfl) (fun w' hk' => X.add rfl rfl (X.w_i64 (by omega))) ?_
            refine X.dE (i := 10) (by kernel_rfl) rfl (X.dwN rfl) (X.callE (sectors_c _ _ (by omega)) Tryz.call48 rfl rfl) (by rintro _ w6 ⟨rfl, hk6⟩ _; exact hk6.mono (fun _ _ h => h.elim)) ?_
            rintro _ w6 ⟨rfl, hk6⟩
            have hk6' := hk6.size
            refine X.dTake 11 rfl (by kernel_rfl) (by kernel_rfl) (by kernel_rfl) (X.dwN rfl) (fun w' hk' => X.sub rfl rfl (X.w_i64 (by omega))) ?_
            refine X.dTake 16 rfl (by kernel_rfl) (by kernel_rfl) (by kernel_rfl) (X.dwN rfl) (fun w' hk' => X.gtr rfl rfl) ?_
            refine X.dEnd (by kernel_rfl) ?_
            refine X.condB rfl (fun h76 => ?_) (fun h76 => ?_)
            · have h76 := of_decide_eq_true h76
              refine X.seq ?_
              refine X.region ?_
              refine X.opw X.wN rfl (X.assign rfl) ?_
              refine X.opsEnd ?_
              refine X.ret1 (v := (.int .i64 _)) Tryz.func13 Tryz.results13 rfl ?_
              have e : s0.write nm (p : Int) y = (53, s0) := by
                simp only [DS.write, if_neg hD, hfa, hfat]
                rw [if_neg (by omega), if_neg (by omega), Int.toNat_natCast, hyl, hfl2, if_pos (by rw [secs, secs]; omega)]
              rw [e]
              exact ⟨rfl, col, (h.keep (((((hk1.trans hk2).trans hk3).trans hk4).trans hk5).trans hk6)).r, Stp.keep (((((hk1.trans hk2).trans hk3).trans hk4).trans hk5).trans hk6)⟩
            · have h76 := of_decide_eq_false h76
              refine X.skip ?_
              refine X.seq ?_
              refine X.regionD (fun q => col q = 8 + 3 * k.toNat ∨ w.heap.size ≤ q) 13 (by kernel_rfl) (by kernel_rfl) (fun w7 hk7 hz7 => ?_)
              refine X.dTake 0 rfl (by kernel_rfl) (by kernel_rfl) (by kernel_rfl) (X.dwN rfl) (fun w' hk' => X.move rfl) ?_
              refine X.dTake 1 rfl (by kernel_rfl) (by kernel_rfl) (by kernel_rfl) (X.dwN rfl) (fun w' hk' => X.move rfl) ?_
              refine X.dTake 2 rfl (by kernel_rfl) (by kernel_rfl) (by kernel_rfl) (X.dwN rfl) (fun w' hk' => X.nilCk rfl) ?_
              refine X.dTake 3 rfl (by kernel_rfl) (by kernel_rfl) (by kernel_rfl) (X.dwN rfl) (fun w' hk' => X.fldB (j := 0) Tryz.underlying87 rfl rfl Tryz.sizeOf31 rfl) ?_
              refine X.dTake 4 rfl (by kernel_rfl) (by kernel_rfl) (by kernel_rfl) (X.dwN rfl) (fun w' hk' => X.load1B Tryz.isAgg31 ((hBf.keep ((((((hk1.trans hk2).trans hk3).trans hk4).trans hk5).trans hk6).trans hk7)).ext hk' (by first | (intros; (try simp only [] at *); omega) | (intro hh; (try simp only [] at hh); omega) | (intro q h1 h2; (try simp only [] at h1 h2); have := hlt q (by omega); omega) | (intro hh; have hh : _ = _ := hh; subst hh; omega) | (intro q h1 h2; have h2 : q = _ := h2; subst h2; (try simp only [] at h1); omega) | (intro q h1 h2; (try simp only [] at h1 h2); omega) | (intro q h1 h2; have h2 : q = _ := h2; have := hlt q (by (try simp only [] at h1); omega); omega) | (intro q h1 h2; (try simp only [] at h1 h2); rcases h2 with h2 | h2 | h2 <;> first | omega | (subst h2; omega)) | (intro q h1 h2; (try simp only [] at h1 h2); rcases h2 with h2 | h2 | h2 | h2 <;> first | omega | (subst h2; omega)))) rfl rfl) ?_
              refine X.dTake 5 rfl (by kernel_rfl) (by kernel_rfl) (by kernel_rfl) (X.dwN rfl) (fun w' hk' => X.move (v := .int .i64 _) rfl) ?_
              refine X.dTake 6 rfl (by kernel_rfl) (by kernel_rfl) (by kernel_rfl) (X.dwN rfl) (fun w' hk' => X.move rfl) ?_
              refine X.dTake 7 rfl (by kernel_rfl) (by kernel_rfl) (by kernel_rfl) (X.dwN rfl) (fun w' hk' => X.nilCk rfl) ?_
              refine X.dTake 8 rfl (by kernel_rfl) (by kernel_rfl) (by kernel_rfl) (X.dwN rfl) (fun w' hk' => X.fldB (j := 0) Tryz.underlying87 rfl rfl Tryz.sizeOf31 rfl) ?_
              refine X.dTake 9 rfl (by kernel_rfl) (by kernel_rfl) (by kernel_rfl) (X.dwN rfl) (fun w' hk' => X.load1B Tryz.isAgg31 ((hBf.keep ((((((hk1.trans hk2).trans hk3).trans hk4).trans hk5).trans hk6).trans hk7)).ext hk' (by first | (intros; (try simp only [] at *); omega) | (intro hh; (try simp only [] at hh); omega) | (intro q h1 h2; (try simp only [] at h1 h2); have := hlt q (by omega); omega) | (intro hh; have hh : _ = _ := hh; subst hh; omega) | (intro q h1 h2; have h2 : q = _ := h2; subst h2; (try simp only [] at h1); omega) | (intro q h1 h2; (try simp only [] at h1 h2); omega) | (intro q h1 h2; have h2 : q = _ := h2; have := hlt q (by (try simp only [] at h1); omega); omega) | (intro q h1 h2; (try simp only [] at h1 h2); rcases h2 with h2 | h2 | h2 <;> first | omega | (subst h2; omega)) | (intro q h1 h2; (try simp only [] at h1 h2); rcases h2 with h2 | h2 | h2 | h2 <;> first | omega | (subst h2; omega)))) rfl rfl) ?_
              refine X.dTake 10 rfl (by kernel_rfl) (by kernel_rfl) (by kernel_rfl) (X.dwN rfl) (fun w' hk' => X.lenSl Tryz.underlying31 rfl) ?_
              refine X.dTake 11 rfl (by kernel_rfl) (by kernel_rfl) (by kernel_rfl) (X.dwN rfl) (fun w' hk' => X.sub (c := ((max n1 (p + m2) - n1 : Nat) : Int)) rfl rfl (by rw [X.w_i64 (by omega)]; omega)) ?_
              refine X.dE (i := 12) (by kernel_rfl) rfl (X.dwN rfl) (X.appMkR (S := fun q => col q = 8 + 3 * k.toNat ∨ w.heap.size ≤ q) Tryz.underlying31 Tryz.underlying3 E8e rfl rfl (by omega) (Row.mono (T := fun q => col q = 8 + 3 * k.toNat ∨ w.heap.size ≤ q) (((((((hM1.keep hk1).keep hk2).keep hk3).keep hk4).keep hk5).keep hk6).keep hk7) (by intro q _ hS; exact .inl hS)) (by (try simp only [Int.toNat_natCast]); omega) (by intro q hq; right; omega)) (by rintro vA w8 ⟨hMa, hxa⟩ _; exact hxa.mono (fun k _ h => by (try simp only [] at *); omega)) ?_
              rintro vA w8 ⟨hMa, hxa⟩
              have hxa' := hxa.size
              refine X.dStep (i := 13) (by kernel_rfl) rfl (X.dwN rfl) (X.nilCk rfl) (fun h => absurd h (by decide)) ?_
              refine X.dStep (i := 14) (by kernel_rfl) rfl (X.dwN rfl) (X.fldB (j := 0) Tryz.underlying87 rfl rfl Tryz.sizeOf31 rfl) (fun h => absurd h (by decide)) ?_
              have q9 := hMa.slF KB_flat 0 (fun _ _ => Nat.zero_le _)
              obtain ⟨A9, c9, rfl, hc9, hs9⟩ := q9
              refine X.dE (i := 15) (by kernel_rfl) rfl (X.dwN rfl) (X.storeE Tryz.sizeOf31 ((hBf.keep ((((((hk1.trans hk2).trans hk3).trans hk4).trans hk5).trans hk6).trans hk7)).ext hxa (by first | (intros; (try simp only [] at *); omega) | (intro hh; (try simp only [] at hh); omega) | (intro q h1 h2; (try simp only [] at h1 h2); have := hlt q (by omega); omega) | (intro hh; have hh : _ = _ := hh; subst hh; omega) | (intro q h1 h2; have h2 : q = _ := h2; subst h2; (try simp only [] at h1); omega) | (intro q h1 h2; (try simp only [] at h1 h2); omega) | (intro q h1 h2; have h2 : q = _ := h2; have := hlt q (by (try simp only [] at h1); omega); omega) | (intro q h1 h2; (try simp only [] at h1 h2); rcases h2 with h2 | h2 | h2 <;> first | omega | (subst h2; omega)) | (intro q h1 h2; (try simp only [] at h1 h2); rcases h2 with h2 | h2 | h2 | h2 <;> first | omega | (subst h2; omega)))) rfl rfl rfl rfl) (fun _ _ _ h => absurd h (by decide)) ?_
              rintro _ w10 ⟨hB10, hx10, hz10⟩
              refine X.dEnd (by kernel_rfl) ?_
              refine X.seq ?_
              refine X.region ?_
              refine X.opw X.wN rfl (X.move rfl) ?_
              refine X.opw X.wN rfl (X.nilCk rfl) ?_
              refine X.opw X.wN rfl (X.fldB (j := 0) Tryz.underlying87 rfl rfl Tryz.sizeOf31 rfl) ?_
              refine X.opw X.wN rfl (X.load1B Tryz.isAgg31 hB10 rfl rfl) ?_
              refine X.opw X.wN rfl (X.move (v := .int .i64 _) rfl) ?_
              refine X.opw X.wN rfl (X.move (v := .int .i64 _) rfl) ?_
              refine X.opw X.wN rfl (X.move (v := .int .i64 _) rfl) ?_
              refine X.opw X.wN rfl (X.cut3N (p := p) (m := m2) Tryz.underlying31 Tryz.sizeOf5 rfl rfl rfl rfl (by have := hc9; simp only [List.length_append, List.length_replicate, Int.toNat_natCast] at this; omega)) ?_
              refine X.opw X.wN rfl (X.move rfl) ?_
              have hcap3 := ((hMa.ext hx10 (by intros; omega) (by first | (intros; (try simp only [] at *); omega) | (intro hh; (try simp only [] at hh); omega) | (intro q h1 h2; (try simp only [] at h1 h2); have := hlt q (by omega); omega) | (intro hh; have hh : _ = _ := hh; subst hh; omega) | (intro q h1 h2; have h2 : q = _ := h2; subst h2; (try simp only [] at h1); omega) | (intro q h1 h2; (try simp only [] at h1 h2); omega) | (intro q h1 h2; have h2 : q = _ := h2; have := hlt q (by (try simp only [] at h1); omega); omega) | (intro q h1 h2; (try simp only [] at h1 h2); rcases h2 with h2 | h2 | h2 <;> first | omega | (subst h2; omega)) | (intro q h1 h2; (try simp only [] at h1 h2); rcases h2 with h2 | h2 | h2 | h2 <;> first | omega | (subst h2; omega)))).rd KB_flat).1
              refine X.opE X.wN rfl (X.copyR (K := KB) (p := p) (m := m2) KB_flat (by decide) Tryz.underlying31 Tryz.sizeOf5 rfl rfl (hMa.ext hx10 (by intros; omega) (by first | (intros; (try simp only [] at *); omega) | (intro hh; (try simp only [] at hh); omega) | (intro q h1 h2; (try simp only [] at h1 h2); have := hlt q (by omega); omega) | (intro hh; have hh : _ = _ := hh; subst hh; omega) | (intro q h1 h2; have h2 : q = _ := h2; subst h2; (try simp only [] at h1); omega) | (intro q h1 h2; (try simp only [] at h1 h2); omega) | (intro q h1 h2; have h2 : q = _ := h2; have := hlt q (by (try simp only [] at h1); omega); omega) | (intro q h1 h2; (try simp only [] at h1 h2); rcases h2 with h2 | h2 | h2 <;> first | omega | (subst h2; omega)) | (intro q h1 h2; (try simp only [] at h1 h2); rcases h2 with h2 | h2 | h2 | h2 <;> first | omega | (subst h2; omega)))) (by rw [List.length_append, List.length_replicate, Int.toNat_natCast]; omega) (((((((((hy.keep hk1).keep hk2).keep hk3).keep hk4).keep hk5).keep hk6).keep hk7).ext hxa (by intro q g1 g2 g3; have hy1 := hy0 q g1 g2; first | omega | ((try simp only [] at g3); omega) | (have g3 : q = _ := g3; subst g3; omega) | (rcases g3 with g3 | g3 <;> first | omega | (subst g3; omega)))).ext hx10 (by intro q g1 g2 g3; have hy1 := hy0 q g1 g2; first | omega | ((try simp only [] at g3); omega) | (have g3 : q = _ := g3; subst g3; omega) | (rcases g3 with g3 | g3 <;> first | omega | (subst g3; omega))))) ?_
              rintro _ w11 ⟨rfl, hMc, hxc, hzc⟩
              refine X.opsEnd ?_
              refine X.seq ?_
              refine X.seq ?_
              refine X.region ?_
              refine X.opw X.wN rfl (X.move (v := .int .i64 _) rfl) ?_
              refine X.opw X.wN rfl (X.quo (c := ((p / 64 : Nat) : Int)) rfl rfl (by decide) (by rw [show ((p : Nat) : Int).tdiv 64 = ((p / 64 : Nat) : Int) from rfl]; exact X.w_i64 (by omega))) ?_
              refine X.opw X.wN rfl (X.assign (v := .int .i64 _) rfl) ?_
              refine X.opsEnd ?_
              refine X.block ?_
              have gB := ((((h.B.keep ((((((hk1.trans hk2).trans hk3).trans hk4).trans hk5).trans hk6).trans hk7)).ext hxa (by first | (intros; (try simp only [] at *); omega) | (intro hh; (try simp only [] at hh); omega) | (intro q h1 h2; (try simp only [] at h1 h2); have := hlt q (by omega); omega) | (intro hh; have hh : _ = _ := hh; subst hh; omega) | (intro q h1 h2; have h2 : q = _ := h2; subst h2; (try simp only [] at h1); omega) | (intro q h1 h2; (try simp only [] at h1 h2); omega) | (intro q h1 h2; have h2 : q = _ := h2; have := hlt q (by (try simp only [] at h1); omega); omega) | (intro q h1 h2; (try simp only [] at h1 h2); rcases h2 with h2 | h2 | h2 <;> first | omega | (subst h2; omega)) | (intro q h1 h2; (try simp only [] at h1 h2); rcases h2 with h2 | h2 | h2 | h2 <;> first | omega | (subst h2; omega)))).ext hx10 (by first | (intros; (try simp only [] at *); omega) | (intro hh; (try simp only [] at hh); omega) | (intro q h1 h2; (try simp only [] at h1 h2); have := hlt q (by omega); omega) | (intro hh; have hh : _ = _ := hh; subst hh; omega) | (intro q h1 h2; have h2 : q = _ := h2; subst h2; (try simp only [] at h1); omega) | (intro q h1 h2; (try simp only [] at h1 h2); omega) | (intro q h1 h2; have h2 : q = _ := h2; have := hlt q (by (try simp only [] at h1); omega); omega) | (intro q h1 h2; (try simp only [] at h1 h2); rcases h2 with h2 | h2 | h2 <;> first | omega | (subst h2; omega)) | (intro q h1 h2; (try simp only [] at h1 h2); rcases h2 with h2 | h2 | h2 | h2 <;> first | omega | (subst h2; omega)))).ext hxc (by first | (intros; (try simp only [] at *); omega) | (intro hh; (try simp only [] at hh); omega) | (intro q h1 h2; (try simp only [] at h1 h2); have := hlt q (by omega); omega) | (intro hh; have hh : _ = _ := hh; subst hh; omega) | (intro q h1 h2; have h2 : q = _ := h2; subst h2; (try simp only [] at h1); omega) | (intro q h1 h2; (try simp only [] at h1 h2); omega) | (intro q h1 h2; have h2 : q = _ := h2; have := hlt q (by (try simp only [] at h1); omega); omega) | (intro q h1 h2; (try simp only [] at h1 h2); rcases h2 with h2 | h2 | h2 <;> first | omega | (subst h2; omega)) | (intro q h1 h2; (try simp only [] at h1 h2); rcases h2 with h2 | h2 | h2 | h2 <;> first | omega | (subst h2; omega))))
              have gF := (hB10.ext hxc (by first | (intros; (try simp only [] at *); omega) | (intro hh; (try simp only [] at hh); omega) | (intro q h1 h2; (try simp only [] at h1 h2); have := hlt q (by omega); omega) | (intro hh; have hh : _ = _ := hh; subst hh; omega) | (intro q h1 h2; have h2 : q = _ := h2; subst h2; (try simp only [] at h1); omega) | (intro q h1 h2; (try simp only [] at h1 h2); omega) | (intro q h1 h2; have h2 : q = _ := h2; have := hlt q (by (try simp only [] at h1); omega); omega) | (intro q h1 h2; (try simp only [] at h1 h2); rcases h2 with h2 | h2 | h2 <;> first | omega | (subst h2; omega)) | (intro q h1 h2; (try simp only [] at h1 h2); rcases h2 with h2 | h2 | h2 | h2 <;> first | omega | (subst h2; omega))))
              have gM1 := hMc
              have gM2 := ((((((((((hM2.keep hk1).keep hk2).keep hk3).keep hk4).keep hk5).keep hk6).keep hk7).ext hxa (by intros; omega) (by first | (intros; (try simp only [] at *); omega) | (intro hh; (try simp only [] at hh); omega) | (intro q h1 h2; (try simp only [] at h1 h2); have := hlt q (by omega); omega) | (intro hh; have hh : _ = _ := hh; subst hh; omega) | (intro q h1 h2; have h2 : q = _ := h2; subst h2; (try simp only [] at h1); omega) | (intro q h1 h2; (try simp only [] at h1 h2); omega) | (intro q h1 h2; have h2 : q = _ := h2; have := hlt q (by (try simp only [] at h1); omega); omega) | (intro q h1 h2; (try simp only [] at h1 h2); rcases h2 with h2 | h2 | h2 <;> first | omega | (subst h2; omega)) | (intro q h1 h2; (try simp only [] at h1 h2); rcases h2 with h2 | h2 | h2 | h2 <;> first | omega | (subst h2; omega)))).ext hx10 (by intros; omega) (by first | (intros; (try simp only [] at *); omega) | (intro hh; (try simp only [] at hh); omega) | (intro q h1 h2; (try simp only [] at h1 h2); have := hlt q (by omega); omega) | (intro hh; have hh : _ = _ := hh; subst hh; omega) | (intro q h1 h2; have h2 : q = _ := h2; subst h2; (try simp only [] at h1); omega) | (intro q h1 h2; (try simp only [] at h1 h2); omega) | (intro q h1 h2; have h2 : q = _ := h2; have := hlt q (by (try simp only [] at h1); omega); omega) | (intro q h1 h2; (try simp only [] at h1 h2); rcases h2 with h2 | h2 | h2 <;> first | omega | (subst h2; omega)) | (intro q h1 h2; (try simp only [] at h1 h2); rcases h2 with h2 | h2 | h2 | h2 <;> first | omega | (subst h2; omega)))).ext hxc (by intros; omega) (by first | (intros; (try simp only [] at *); omega) | (intro hh; (try simp only [] at hh); omega) | (intro q h1 h2; (try simp only [] at h1 h2); have := hlt q (by omega); omega) | (intro hh; have hh : _ = _ := hh; subst hh; omega) | (intro q h1 h2; have h2 : q = _ := h2; subst h2; (try simp only [] at h1); omega) | (intro q h1 h2; (try simp only [] at h1 h2); omega) | (intro q h1 h2; have h2 : q = _ := h2; have := hlt q (by (try simp only [] at h1); omega); omega) | (intro q h1 h2; (try simp only [] at h1 h2); rcases h2 with h2 | h2 | h2 <;> first | omega | (subst h2; omega)) | (intro q h1 h2; (try simp only [] at h1 h2); rcases h2 with h2 | h2 | h2 | h2 <;> first | omega | (subst h2; omega))))
              have gL := ((((((((((h.L.keep hk1).keep hk2).keep hk3).keep hk4).keep hk5).keep hk6).keep hk7).ext hxa (by first | (intros; (try simp only [] at *); omega) | (intro hh; (try simp only [] at hh); omega) | (intro q h1 h2; (try simp only [] at h1 h2); have := hlt q (by omega); omega) | (intro hh; have hh : _ = _ := hh; subst hh; omega) | (intro q h1 h2; have h2 : q = _ := h2; subst h2; (try simp only [] at h1); omega) | (intro q h1 h2; (try simp only [] at h1 h2); omega) | (intro q h1 h2; have h2 : q = _ := h2; have := hlt q (by (try simp only [] at h1); omega); omega) | (intro q h1 h2; (try simp only [] at h1 h2); rcases h2 with h2 | h2 | h2 <;> first | omega | (subst h2; omega)) | (intro q h1 h2; (try simp only [] at h1 h2); rcases h2 with h2 | h2 | h2 | h2 <;> first | omega | (subst h2; omega)))).ext hx10 (by first | (intros; (try simp only [] at *); omega) | (intro hh; (try simp only [] at hh); omega) | (intro q h1 h2; (try simp only [] at h1 h2); have := hlt q (by omega); omega) | (intro hh; have hh : _ = _ := hh; subst hh; omega) | (intro q h1 h2; have h2 : q = _ := h2; subst h2; (try simp only [] at h1); omega) | (intro q h1 h2; (try simp only [] at h1 h2); omega) | (intro q h1 h2; have h2 : q = _ := h2; have := hlt q (by (try simp only [] at h1); omega); omega) | (intro q h1 h2; (try simp only [] at h1 h2); rcases h2 with h2 | h2 | h2 <;> first | omega | (subst h2; omega)) | (intro q h1 h2; (try simp only [] at h1 h2); rcases h2 with h2 | h2 | h2 | h2 <;> first | omega | (subst h2; omega)))).ext hxc (by first | (intros; (try simp only [] at *); omega) | (intro hh; (try simp only [] at hh); omega) | (intro q h1 h2; (try simp only [] at h1 h2); have := hlt q (by omega); omega) | (intro hh; have hh : _ = _ := hh; subst hh; omega) | (intro q h1 h2; have h2 : q = _ := h2; subst h2; (try simp only [] at h1); omega) | (intro q h1 h2; (try simp only [] at h1 h2); omega) | (intro q h1 h2; have h2 : q = _ := h2; have := hlt q (by (try simp only [] at h1); omega); omega) | (intro q h1 h2; (try simp only [] at h1 h2); rcases h2 with h2 | h2 | h2 <;> first | omega | (subst h2; omega)) | (intro q h1 h2; (try simp only [] at h1 h2); rcases h2 with h2 | h2 | h2 | h2 <;> first | omega | (subst h2; omega))))
              have gx := (Ext.andThen (Ext.andThen (Ext.andThen (Ext.andThen (Ext.andThen (Ext.andThen (Ext.andThen (Ext.andThen (Ext.andThen (Ext.andThen (Ext.refl (fun q => col q = 1 ∨ col q = 5 ∨ col q = 7 + 3 * k.toNat ∨ col q = 8 + 3 * k.toNat ∨ w.heap.size ≤ q) _) hk1 (by intro q h1 h2; first | exact (h2 : False).elim | ((try simp only [] at h2); omega) | (have h2 : q = _ := h2; subst h2; omega))) hk2 (by intro q h1 h2; first | exact (h2 : False).elim | ((try simp only [] at h2); omega) | (have h2 : q = _ := h2; subst h2; omega))) hk3 (by intro q h1 h2; first | exact (h2 : False).elim | ((try simp only [] at h2); omega) | (have h2 : q = _ := h2; subst h2; omega))) hk4 (by intro q h1 h2; first | exact (h2 : False).elim | ((try simp only [] at h2); omega) | (have h2 : q = _ := h2; subst h2; omega))) hk5 (by intro q h1 h2; first | exact (h2 : False).elim | ((try simp only [] at h2); omega) | (have h2 : q = _ := h2; subst h2; omega))) hk6 (by intro q h1 h2; first | exact (h2 : False).elim | ((try simp only [] at h2); omega) | (have h2 : q = _ := h2; subst h2; omega))) hk7 (by intro q h1 h2; first | exact (h2 : False).elim | ((try simp only [] at h2); omega) | (have h2 : q = _ := h2; subst h2; omega))) hxa (by intro q h1 h2; first | exact (h2 : False).elim | ((try simp only [] at h2); omega) | (have h2 : q = _ := h2; subst h2; omega))) hx10 (by intro q h1 h2; first | exact (h2 : False).elim | ((try simp only [] at h2); omega) | (have h2 : q = _ := h2; subst h2; omega))) hxc (by intro q h1 h2; first | exact (h2 : False).elim | ((try simp only [] at h2); omega) | (have h2 : q = _ := h2; subst h2; omega)))
              have gxs := gx.size
              refine X.loopL (σ := Nat × LS) (fun s => [(0, ptrV b), (3, .slice Ay m2 cy), (10, .int .i64 k), (13, .int .i64 ((p + m2 : Nat) : Int)), (15, .int .i64 (s.1 : Int))]) (fun s w' => MPL w' bl s.2 ∧ p / 64 ≤ s.1 ∧ s.1 ≤ p / 64 + touched p m2 ∧ markL k s.1 (p / 64 + touched p m2 - s.1) s.2 = markL k (p / 64) (touched p m2) s0.ls ∧ Ext (fun q => q = bl) w11 w') (fun s => p / 64 + touched p m2 - s.1) (p / 64, s0.ls) ⟨rfl, rfl, rfl, rfl, rfl, trivial⟩ ⟨gL, Nat.le_refl _, by omega, by rw [show p / 64 + touched p m2 - p / 64 = touched p m2 by omega], Ext.refl _ _⟩ ?_
              rintro ⟨sn, l⟩ e w9 ⟨hL9, hs1, hs2, hmk, hx9⟩ hback
              dsimp only at hL9 hs1 hs2 hmk ⊢
              have hx9' := hx9.size
              have htc : m2 = 0 ∧ touched p m2 = 0 ∨ 0 < m2 ∧ touched p m2 = (p + m2 + 63) / 64 - p / 64 := by
                rw [touched]
                split
                · exact .inl ⟨by assumption, rfl⟩
                · exact .inr ⟨by omega, rfl⟩
              refine X.seq ?_
              refine X.seq ?_
              refine X.region ?_
              refine X.opw X.wN rfl (X.move (v := .int .i64 _) rfl) ?_
              refine X.opw X.wN rfl (X.move (v := .int .i64 _) rfl) ?_
              refine X.opE X.wN rfl (X.callE (sectors_c _ _ (by omega)) Tryz.call48 rfl rfl) ?_
              rintro _ w12 ⟨rfl, hk12⟩
              have hk12' := hk12.size
              refine X.opP X.wN rfl rfl (X.lss rfl rfl) (fun h107 => ?_) (fun h107 => ?_)
              · refine X.opw X.wN rfl (X.move (v := .bool true) rfl) ?_
                refine X.opw (X.wG rfl rfl rfl) rfl (X.move rfl) ?_
                refine X.opw (X.wG rfl rfl rfl) rfl (X.lenSl Tryz.underlying31 rfl) ?_
                refine X.opP (X.wG rfl rfl rfl) rfl rfl (X.gtr rfl rfl) (fun h111 => ?_) (fun h111 => ?_)
                · refine X.opw X.wN rfl (X.pickT (v := .bool true) rfl rfl) ?_
                  refine X.opsEnd ?_
                  refine X.condT rfl ?_
                  refine X.skip ?_
                  refine X.seq ?_
                  refine X.block ?_
                  refine X.region ?_
                  refine X.opw X.wN rfl (X.move rfl) ?_
                  refine X.opw X.wN rfl (X.nilCk rfl) ?_
                  refine X.opw X.wN rfl (X.fldB (j := 6) Tryz.underlying71 rfl rfl Tryz.sizeOf69 rfl) ?_
                  refine X.opw X.wN rfl (X.load1B Tryz.isAgg69 ((gB.ext hx9 (by first | (intros; (try simp only [] at *); omega) | (intro hh; (try simp only [] at hh); omega) | (intro q h1 h2; (try simp only [] at h1 h2); have := hlt q (by omega); omega) | (intro hh; have hh : _ = _ := hh; subst hh; omega) | (intro q h1 h2; have h2 : q = _ := h2; subst h2; (try simp only [] at h1); omega) | (intro q h1 h2; (try simp only [] at h1 h2); omega) | (intro q h1 h2; have h2 : q = _ := h2; have := hlt q (by (try simp only [] at h1); omega); omega) | (intro q h1 h2; (try simp only [] at h1 h2); rcases h2 with h2 | h2 | h2 <;> first | omega | (subst h2; omega)) | (intro q h1 h2; (try simp only [] at h1 h2); rcases h2 with h2 | h2 | h2 | h2 <;> first | omega | (subst h2; omega)))).keep hk12) rfl rfl) ?_
                  refine X.opw X.wN rfl (X.move (v := .int .i64 _) rfl) ?_
                  refine X.opw X.wN rfl (X.move (v := .int .i64 _) rfl) ?_
                  refine X.opw X.wN rfl (X.buildB (vs := [(0, .int .i64 k), (1, .int .i64 (sn : Int))]) (cs := #[.int .i64 k, .int .i64 (sn : Int)]) rfl (by kernel_rfl)) ?_
                  refine X.opE X.wN rfl (X.updateV (enc := fun x : Int × Int => encPl x) (venc := fun v : Bool => .bool v) (a := (k, (sn : Int))) (v := true) Tryz.underlying69 keyPl (hL9.keep hk12) rfl rfl rfl) ?_
                  rintro _ w13 ⟨hLm, hxm, hzm⟩
                  refine X.opsEnd ?_
                  refine X.inBlock ?_
                  refine X.region ?_
                  refine X.opw X.wN rfl (X.move (v := .int .i64 _) rfl) ?_
                  refine X.opw X.wN rfl (X.add (c := ((sn + 1 : Nat) : Int)) rfl rfl (by rw [X.w_i64 (by omega)]; omega)) ?_
                  refine X.opw X.wN rfl (X.assign (v := .int .i64 _) rfl) ?_
                  refine X.opsEnd ?_
                  refine hback (sn + 1, put (k, (sn : Int)) true l) _ _ ⟨rfl, rfl, rfl, rfl, rfl, trivial⟩ ⟨hLm, by omega, by (dsimp only); omega, ?_, (Ext.andThen (Ext.andThen (Ext.andThen (Ext.refl (fun q => q = bl) _) hx9 (by intro q h1 h2; first | exact (h2 : False).elim | exact h2)) hk12 (by intro q h1 h2; first | exact (h2 : False).elim | exact h2)) hxm (by intro q h1 h2; first | exact (h2 : False).elim | exact h2))⟩ (by (dsimp only); omega)
                  rw [← hmk, show p / 64 + touched p m2 - sn = (p / 64 + touched p m2 - (sn + 1)) + 1 by omega]
                  rfl
                · refine X.opw X.wN rfl (X.pickT (v := .bool false) rfl rfl) ?_
                  refine X.opsEnd ?_
                  refine X.condF rfl ?_
                  refine X.exit rfl ?_
                  refine X.seq ?_
                  refine X.region ?_
                  refine X.opw X.wN rfl (X.move rfl) ?_
                  refine X.opE X.wN rfl (X.callE (did_c _ ((gB.ext hx9 (by first | (intros; (try simp only [] at *); omega) | (intro hh; (try simp only [] at hh); omega) | (intro q h1 h2; (try simp only [] at h1 h2); have := hlt q (by omega); omega) | (intro hh; have hh : _ = _ := hh; subst hh; omega) | (intro q h1 h2; have h2 : q = _ := h2; subst h2; (try simp only [] at h1); omega) | (intro q h1 h2; (try simp only [] at h1 h2); omega) | (intro q h1 h2; have h2 : q = _ := h2; have := hlt q (by (try simp only [] at h1); omega); omega) | (intro q h1 h2; (try simp only [] at h1 h2); rcases h2 with h2 | h2 | h2 <;> first | omega | (subst h2; omega)) | (intro q h1 h2; (try simp only [] at h1 h2); rcases h2 with h2 | h2 | h2 | h2 <;> first | omega | (subst h2; omega)))).keep hk12) (by omega)) Tryz.call46 rfl rfl) ?_
                  rintro _ w14 ⟨rfl, hBd, hxd⟩
                  have hxd' := hxd.size
                  refine X.opw X.wN rfl (X.assign (v := .int .i64 _) rfl) ?_
                  refine X.opsEnd ?_
                  refine X.ret1 (v := (.int .i64 _)) Tryz.func13 Tryz.results13 rfl ?_
                  have hfull : markL k (p / 64) (touched p m2) s0.ls = l := by rw [← hmk, show p / 64 + touched p m2 - sn = 0 by omega]; rfl
                  have hx : Ext (fun q => col q = 1 ∨ col q = 5 ∨ col q = 7 + 3 * k.toNat ∨ col q = 8 + 3 * k.toNat) w w14 := ((Ext.andThen (Ext.andThen (Ext.andThen gx hx9 (by intro q h1 h2; first | exact (h2 : False).elim | ((try simp only [] at h2); omega) | (have h2 : q = _ := h2; subst h2; omega))) hk12 (by intro q h1 h2; first | exact (h2 : False).elim | ((try simp only [] at h2); omega) | (have h2 : q = _ := h2; subst h2; omega))) hxd (by intro q h1 h2; first | exact (h2 : False).elim | ((try simp only [] at h2); omega) | (have h2 : q = _ := h2; subst h2; omega)))).mono (fun q hq t => by (try simp only [] at t); omega)
                  have hxs := hx.size
                  obtain ⟨col', hcol⟩ : ∃ col', col' = rec' col w.heap.size w14.heap.size (8 + 3 * k.toNat) := ⟨_, rfl⟩
                  have hold : ∀ q, q < w.heap.size → col' q = col q := fun q hq => by rw [hcol]; exact rec_old hq
                  have hnew : ∀ q, w.heap.size ≤ q → q < w14.heap.size → col' q = 8 + 3 * k.toNat := fun q h1 h2 => by rw [hcol]; exact rec_new h1 h2
                  have hltc : ∀ q, col' q ≠ 0 → q < w14.heap.size := fun q hq => by rw [hcol] at hq; exact rec_lt hlt hxs hq
                  have P := h.part (col' := col') (fun v => v = 1 ∨ v = 5 ∨ v = 7 + 3 * k.toNat ∨ v = 8 + 3 * k.toNat) hx hold (fun q hq ht => ht)
                  have hst : Stp col w col' w14 := ⟨hold, hx.mono (fun q _ t => by (try simp only [] at t); omega)⟩
                  have hrs : (f.1 ++ List.replicate ((max n1 (p + m2) - n1 : Nat) : Int).toNat 0).take p ++ y ++ (f.1 ++ List.replicate ((max n1 (p + m2) - n1 : Nat) : Int).toNat 0).drop (p + m2) = wrt f.1 p y := by
                    simp only [wrt, Int.toNat_natCast, hyl, hfl2]
                  have e : s0.write nm (p : Int) y = (0, ({ s0 with fs := s0.fs.set k.toNat (wrt f.1 p y, f.2), ls := l } : DS).did) := by
                    simp only [DS.write, if_neg hD, hfa, hfat]
                    rw [if_neg (by omega), if_neg (by omega), Int.toNat_natCast, hyl, hfl2, if_neg (by rw [secs, secs]; omega), hfull]
                  rw [e]
                  refine ⟨rfl, col', ⟨bf, bd, bx, bl, A, n, c, pt, ?_, P.F (by omega), P.G (by omega), P.X (by omega), ((hL9.keep hk12).ext hxd (by first | (intros; (try simp only [] at *); omega) | (intro hh; (try simp only [] at hh); omega) | (intro q h1 h2; (try simp only [] at h1 h2); have := hlt q (by omega); omega) | (intro hh; have hh : _ = _ := hh; subst hh; omega) | (intro q h1 h2; have h2 : q = _ := h2; subst h2; (try simp only [] at h1); omega) | (intro q h1 h2; (try simp only [] at h1 h2); omega) | (intro q h1 h2; have h2 : q = _ := h2; have := hlt q (by (try simp only [] at h1); omega); omega) | (intro q h1 h2; (try simp only [] at h1 h2); rcases h2 with h2 | h2 | h2 <;> first | omega | (subst h2; omega)) | (intro q h1 h2; (try simp only [] at h1 h2); rcases h2 with h2 | h2 | h2 | h2 <;> first | omega | (subst h2; omega)))), P.M (by omega), P.cb, P.cf, P.cd, P.cx, P.cl, hltc, ?_, ?_⟩, hst⟩
                  · have := hBd
                    simp only [DS.did, List.length_set]
                    exact this
                  · simp only [DS.did, List.length_set]; exact P.pl
                  · intro j q g h1 h2
                    by_cases hj : j = k.toNat
                    · subst hj
                      rw [hpf] at h1
                      have h2' : (s0.fs.set k.toNat (wrt f.1 p y, f.2))[k.toNat]? = some g := h2
                      rw [List.getElem?_set_self (by omega)] at h2'
                      cases h1; cases h2'
                      exact ⟨(hold _ hpl2).trans hpc, _, _, _, _, _, _, (((gF.ext hx9 (by first | (intros; (try simp only [] at *); omega) | (intro hh; (try simp only [] at hh); omega) | (intro q h1 h2; (try simp only [] at h1 h2); have := hlt q (by omega); omega) | (intro hh; have hh : _ = _ := hh; subst hh; omega) | (intro q h1 h2; have h2 : q = _ := h2; subst h2; (try simp only [] at h1); omega) | (intro q h1 h2; (try simp only [] at h1 h2); omega) | (intro q h1 h2; have h2 : q = _ := h2; have := hlt q (by (try simp only [] at h1); omega); omega) | (intro q h1 h2; (try simp only [] at h1 h2); rcases h2 with h2 | h2 | h2 <;> first | omega | (subst h2; omega)) | (intro q h1 h2; (try simp only [] at h1 h2); rcases h2 with h2 | h2 | h2 | h2 <;> first | omega | (subst h2; omega)))).keep hk12).ext hxd (by first | (intros; (try simp only [] at *); omega) | (intro hh; (try simp only [] at hh); omega) | (intro q h1 h2; (try simp only [] at h1 h2); have := hlt q (by omega); omega) | (intro hh; have hh : _ = _ := hh; subst hh; omega) | (intro q h1 h2; have h2 : q = _ := h2; subst h2; (try simp only [] at h1); omega) | (intro q h1 h2; (try simp only [] at h1 h2); omega) | (intro q h1 h2; have h2 : q = _ := h2; have := hlt q (by (try simp only [] at h1); omega); omega) | (intro q h1 h2; (try simp only [] at h1 h2); rcases h2 with h2 | h2 | h2 <;> first | omega | (subst h2; omega)) | (intro q h1 h2; (try simp only [] at h1 h2); rcases h2 with h2 | h2 | h2 | h2 <;> first | omega | (subst h2; omega)))), (by rw [← hrs]; exact ((((gM1.ext hx9 (by intros; omega) (by first | (intros; (try simp only [] at *); omega) | (intro hh; (try simp only [] at hh); omega) | (intro q h1 h2; (try simp only [] at h1 h2); have := hlt q (by omega); omega) | (intro hh; have hh : _ = _ := hh; subst hh; omega) | (intro q h1 h2; have h2 : q = _ := h2; subst h2; (try simp only [] at h1); omega) | (intro q h1 h2; (try simp only [] at h1 h2); omega) | (intro q h1 h2; have h2 : q = _ := h2; have := hlt q (by (try simp only [] at h1); omega); omega) | (intro q h1 h2; (try simp only [] at h1 h2); rcases h2 with h2 | h2 | h2 <;> first | omega | (subst h2; omega)) | (intro q h1 h2; (try simp only [] at h1 h2); rcases h2 with h2 | h2 | h2 | h2 <;> first | omega | (subst h2; omega)))).keep hk12).ext hxd (by intros; omega) (by first | (intros; (try simp only [] at *); omega) | (intro hh; (try simp only [] at hh); omega) | (intro q h1 h2; (try simp only [] at h1 h2); have := hlt q (by omega); omega) | (intro hh; have hh : _ = _ := hh; subst hh; omega) | (intro q h1 h2; have h2 : q = _ := h2; subst h2; (try simp only [] at h1); omega) | (intro q h1 h2; (try simp only [] at h1 h2); omega) | (intro q h1 h2; have h2 : q = _ := h2; have := hlt q (by (try simp only [] at h1); omega); omega) | (intro q h1 h2; (try simp only [] at h1 h2); rcases h2 with h2 | h2 | h2 <;> first | omega | (subst h2; omega)) | (intro q h1 h2; (try simp only [] at h1 h2); rcases h2 with h2 | h2 | h2 | h2 <;> first | omega | (subst h2; omega))))).mono (fun q hq hS => hS.elim (fun hS => by rw [hold q (hlt q (by omega))]; exact hS) (fun hS => hnew q hS hq))), ((((gM2.ext hx9 (by intros; omega) (by first | (intros; (try simp only [] at *); omega) | (intro hh; (try simp only [] at hh); omega) | (intro q h1 h2; (try simp only [] at h1 h2); have := hlt q (by omega); omega) | (intro hh; have hh : _ = _ := hh; subst hh; omega) | (intro q h1 h2; have h2 : q = _ := h2; subst h2; (try simp only [] at h1); omega) | (intro q h1 h2; (try simp only [] at h1 h2); omega) | (intro q h1 h2; have h2 : q = _ := h2; have := hlt q (by (try simp only [] at h1); omega); omega) | (intro q h1 h2; (try simp only [] at h1 h2); rcases h2 with h2 | h2 | h2 <;> first | omega | (subst h2; omega)) | (intro q h1 h2; (try simp only [] at h1 h2); rcases h2 with h2 | h2 | h2 | h2 <;> first | omega | (subst h2; omega)))).keep hk12).ext hxd (by intros; omega) (by first | (intros; (try simp only [] at *); omega) | (intro hh; (try simp only [] at hh); omega) | (intro q h1 h2; (try simp only [] at h1 h2); have := hlt q (by omega); omega) | (intro hh; have hh : _ = _ := hh; subst hh; omega) | (intro q h1 h2; have h2 : q = _ := h2; subst h2; (try simp only [] at h1); omega) | (intro q h1 h2; (try simp only [] at h1 h2); omega) | (intro q h1 h2; have h2 : q = _ := h2; have := hlt q (by (try simp only [] at h1); omega); omega) | (intro q h1 h2; (try simp only [] at h1 h2); rcases h2 with h2 | h2 | h2 <;> first | omega | (subst h2; omega)) | (intro q h1 h2; (try simp only [] at h1 h2); rcases h2 with h2 | h2 | h2 | h2 <;> first | omega | (subst h2; omega)))).mono (fun q hq hS => by rw [hold q (hlt q (by (try simp only [] at hS); omega))]; exact hS))⟩
                    · have h2' : (s0.fs.set k.toNat (wrt f.1 p y, f.2))[j]? = some g := h2
                      rw [List.getElem?_set_ne (fun e => hj e.symm)] at h2'
                      exact P.fl j q g h1 h2' (fun v a1 a2 => by omega)
              · refine X.opw X.wN rfl (X.move (v := .bool false) rfl) ?_
                refine X.opS rfl rfl rfl rfl rfl ?_
                refine X.opS rfl rfl rfl rfl rfl ?_
                refine X.opS rfl rfl rfl rfl rfl ?_
                refine X.opw X.wN rfl (X.pickF (v := .bool false) rfl rfl) ?_
                refine X.opsEnd ?_
                refine X.condF rfl ?_
                refine X.exit rfl ?_
                refine X.seq ?_
                refine X.region ?_
                refine X.opw X.wN rfl (X.move rfl) ?_
                refine X.opE X.wN rfl (X.callE (did_c _ ((gB.ext hx9 (by first | (intros; (try simp only [] at *); omega) | (intro hh; (try simp only [] at hh); omega) | (intro q h1 h2; (try simp only [] at h1 h2); have := hlt q (by omega); omega) | (intro hh; have hh : _ = _ := hh; subst hh; omega) | (intro q h1 h2; have h2 : q = _ := h2; subst h2; (try simp only [] at h1); omega) | (intro q h1 h2; (try simp only [] at h1 h2); omega) | (intro q h1 h2; have h2 : q = _ := h2; have := hlt q (by (try simp only [] at h1); omega); omega) | (intro q h1 h2; (try simp only [] at h1 h2); rcases h2 with h2 | h2 | h2 <;> first | omega | (subst h2; omega)) | (intro q h1 h2; (try simp only [] at h1 h2); rcases h2 with h2 | h2 | h2 | h2 <;> first | omega | (subst h2; omega)))).keep hk12) (by omega)) Tryz.call46 rfl rfl) ?_
                rintro _ w15 ⟨rfl, hBd, hxd⟩
                have hxd' := hxd.size
                refine X.opw X.wN rfl (X.assign (v := .int .i64 _) rfl) ?_
                refine X.opsEnd ?_
                refine X.ret1 (v := (.int .i64 _)) Tryz.func13 Tryz.results13 rfl ?_
                have hfull : markL k (p / 64) (touched p m2) s0.ls = l := by rw [← hmk, show p / 64 + touched p m2 - sn = 0 by omega]; rfl
                have hx : Ext (fun q => col q = 1 ∨ col q = 5 ∨ col q = 7 + 3 * k.toNat ∨ col q = 8 + 3 * k.toNat) w w15 := ((Ext.andThen (Ext.andThen (Ext.andThen gx hx9 (by intro q h1 h2; first | exact (h2 : False).elim | ((try simp only [] at h2); omega) | (have h2 : q = _ := h2; subst h2; omega))) hk12 (by intro q h1 h2; first | exact (h2 : False).elim | ((try simp only [] at h2); omega) | (have h2 : q = _ := h2; subst h2; omega))) hxd (by intro q h1 h2; first | exact (h2 : False).elim | ((try simp only [] at h2); omega) | (have h2 : q = _ := h2; subst h2; omega)))).mono (fun q hq t => by (try simp only [] at t); omega)
                have hxs := hx.size
                obtain ⟨col', hcol⟩ : ∃ col', col' = rec' col w.heap.size w15.heap.size (8 + 3 * k.toNat) := ⟨_, rfl⟩
                have hold : ∀ q, q < w.heap.size → col' q = col q := fun q hq => by rw [hcol]; exact rec_old hq
                have hnew : ∀ q, w.heap.size ≤ q → q < w15.heap.size → col' q = 8 + 3 * k.toNat := fun q h1 h2 => by rw [hcol]; exact rec_new h1 h2
                have hltc : ∀ q, col' q ≠ 0 → q < w15.heap.size := fun q hq => by rw [hcol] at hq; exact rec_lt hlt hxs hq
                have P := h.part (col' := col') (fun v => v = 1 ∨ v = 5 ∨ v = 7 + 3 * k.toNat ∨ v = 8 + 3 * k.toNat) hx hold (fun q hq ht => ht)
                have hst : Stp col w col' w15 := ⟨hold, hx.mono (fun q _ t => by (try simp only [] at t); omega)⟩
                have hrs : (f.1 ++ List.replicate ((max n1 (p + m2) - n1 : Nat) : Int).toNat 0).take p ++ y ++ (f.1 ++ List.replicate ((max n1 (p + m2) - n1 : Nat) : Int).toNat 0).drop (p + m2) = wrt f.1 p y := by
                  simp only [wrt, Int.toNat_natCast, hyl, hfl2]
                have e : s0.write nm (p : Int) y = (0, ({ s0 with fs := s0.fs.set k.toNat (wrt f.1 p y, f.2), ls := l } : DS).did) := by
                  simp only [DS.write, if_neg hD, hfa, hfat]
                  rw [if_neg (by omega), if_neg (by omega), Int.toNat_natCast, hyl, hfl2, if_neg (by rw [secs, secs]; omega), hfull]
                rw [e]
                refine ⟨rfl, col', ⟨bf, bd, bx, bl, A, n, c, pt, ?_, P.F (by omega), P.G (by omega), P.X (by omega), ((hL9.keep hk12).ext hxd (by first | (intros; (try simp only [] at *); omega) | (intro hh; (try simp only [] at hh); omega) | (intro q h1 h2; (try simp only [] at h1 h2); have := hlt q (by omega); omega) | (intro hh; have hh : _ = _ := hh; subst hh; omega) | (intro q h1 h2; have h2 : q = _ := h2; subst h2; (try simp only [] at h1); omega) | (intro q h1 h2; (try simp only [] at h1 h2); omega) | (intro q h1 h2; have h2 : q = _ := h2; have := hlt q (by (try simp only [] at h1); omega); omega) | (intro q h1 h2; (try simp only [] at h1 h2); rcases h2 with h2 | h2 | h2 <;> first | omega | (subst h2; omega)) | (intro q h1 h2; (try simp only [] at h1 h2); rcases h2 with h2 | h2 | h2 | h2 <;> first | omega | (subst h2; omega)))), P.M (by omega), P.cb, P.cf, P.cd, P.cx, P.cl, hltc, ?_, ?_⟩, hst⟩
                · have := hBd
                  simp only [DS.did, List.length_set]
                  exact this
                · simp only [DS.did, List.length_set]; exact P.pl
                · intro j q g h1 h2
                  by_cases hj : j = k.toNat
                  · subst hj
                    rw [hpf] at h1
                    have h2' : (s0.fs.set k.toNat (wrt f.1 p y, f.2))[k.toNat]? = some g := h2
                    rw [List.getElem?_set_self (by omega)] at h2'
                    cases h1; cases h2'
                    exact ⟨(hold _ hpl2).trans hpc, _, _, _, _, _, _, (((gF.ext hx9 (by first | (intros; (try simp only [] at *); omega) | (intro hh; (try simp only [] at hh); omega) | (intro q h1 h2; (try simp only [] at h1 h2); have := hlt q (by omega); omega) | (intro hh; have hh : _ = _ := hh; subst hh; omega) | (intro q h1 h2; have h2 : q = _ := h2; subst h2; (try simp only [] at h1); omega) | (intro q h1 h2; (try simp only [] at h1 h2); omega) | (intro q h1 h2; have h2 : q = _ := h2; have := hlt q (by (try simp only [] at h1); omega); omega) | (intro q h1 h2; (try simp only [] at h1 h2); rcases h2 with h2 | h2 | h2 <;> first | omega | (subst h2; omega)) | (intro q h1 h2; (try simp only [] at h1 h2); rcases h2 with h2 | h2 | h2 | h2 <;> first | omega | (subst h2; omega)))).keep hk12).ext hxd (by first | (intros; (try simp only [] at *); omega) | (intro hh; (try simp only [] at hh); omega) | (intro q h1 h2; (try simp only [] at h1 h2); have := hlt q (by omega); omega) | (intro hh; have hh : _ = _ := hh; subst hh; omega) | (intro q h1 h2; have h2 : q = _ := h2; subst h2; (try simp only [] at h1); omega) | (intro q h1 h2; (try simp only [] at h1 h2); omega) | (intro q h1 h2; have h2 : q = _ := h2; have := hlt q (by (try simp only [] at h1); omega); omega) | (intro q h1 h2; (try simp only [] at h1 h2); rcases h2 with h2 | h2 | h2 <;> first | omega | (subst h2; omega)) | (intro q h1 h2; (try simp only [] at h1 h2); rcases h2 with h2 | h2 | h2 | h2 <;> first | omega | (subst h2; omega)))), (by rw [← hrs]; exact ((((gM1.ext hx9 (by intros; omega) (by first | (intros; (try simp only [] at *); omega) | (intro hh; (try simp only [] at hh); omega) | (intro q h1 h2; (try simp only [] at h1 h2); have := hlt q (by omega); omega) | (intro hh; have hh : _ = _ := hh; subst hh; omega) | (intro q h1 h2; have h2 : q = _ := h2; subst h2; (try simp only [] at h1); omega) | (intro q h1 h2; (try simp only [] at h1 h2); omega) | (intro q h1 h2; have h2 : q = _ := h2; have := hlt q (by (try simp only [] at h1); omega); omega) | (intro q h1 h2; (try simp only [] at h1 h2); rcases h2 with h2 | h2 | h2 <;> first | omega | (subst h2; omega)) | (intro q h1 h2; (try simp only [] at h1 h2); rcases h2 with h2 | h2 | h2 | h2 <;> first | omega | (subst h2; omega)))).keep hk12).ext hxd (by intros; omega) (by first | (intros; (try simp only [] at *); omega) | (intro hh; (try simp only [] at hh); omega) | (intro q h1 h2; (try simp only [] at h1 h2); have := hlt q (by omega); omega) | (intro hh; have hh : _ = _ := hh; subst hh; omega) | (intro q h1 h2; have h2 : q = _ := h2; subst h2; (try simp only [] at h1); omega) | (intro q h1 h2; (try simp only [] at h1 h2); omega) | (intro q h1 h2; have h2 : q = _ := h2; have := hlt q (by (try simp only [] at h1); omega); omega) | (intro q h1 h2; (try simp only [] at h1 h2); rcases h2 with h2 | h2 | h2 <;> first | omega | (subst h2; omega)) | (intro q h1 h2; (try simp only [] at h1 h2); rcases h2 with h2 | h2 | h2 | h2 <;> first | omega | (subst h2; omega))))).mono (fun q hq hS => hS.elim (fun hS => by rw [hold q (hlt q (by omega))]; exact hS) (fun hS => hnew q hS hq))), ((((gM2.ext hx9 (by intros; omega) (by first | (intros; (try simp only [] at *); omega) | (intro hh; (try simp only [] at hh); omega) | (intro q h1 h2; (try simp only [] at h1 h2); have := hlt q (by omega); omega) | (intro hh; have hh : _ = _ := hh; subst hh; omega) | (intro q h1 h2; have h2 : q = _ := h2; subst h2; (try simp only [] at h1); omega) | (intro q h1 h2; (try simp only [] at h1 h2); omega) | (intro q h1 h2; have h2 : q = _ := h2; have := hlt q (by (try simp only [] at h1); omega); omega) | (intro q h1 h2; (try simp only [] at h1 h2); rcases h2 with h2 | h2 | h2 <;> first | omega | (subst h2; omega)) | (intro q h1 h2; (try simp only [] at h1 h2); rcases h2 with h2 | h2 | h2 | h2 <;> first | omega | (subst h2; omega)))).keep hk12).ext hxd (by intros; omega) (by first | (intros; (try simp only [] at *); omega) | (intro hh; (try simp only [] at hh); omega) | (intro q h1 h2; (try simp only [] at h1 h2); have := hlt q (by omega); omega) | (intro hh; have hh : _ = _ := hh; subst hh; omega) | (intro q h1 h2; have h2 : q = _ := h2; subst h2; (try simp only [] at h1); omega) | (intro q h1 h2; (try simp only [] at h1 h2); omega) | (intro q h1 h2; have h2 : q = _ := h2; have := hlt q (by (try simp only [] at h1); omega); omega) | (intro q h1 h2; (try simp only [] at h1 h2); rcases h2 with h2 | h2 | h2 <;> first | omega | (subst h2; omega)) | (intro q h1 h2; (try simp only [] at h1 h2); rcases h2 with h2 | h2 | h2 | h2 <;> first | omega | (subst h2; omega)))).mono (fun q hq hS => by rw [hold q (hlt q (by (try simp only [] at hS); omega))]; exact hS))⟩
                  · have h2' : (s0.fs.set k.toNat (wrt f.1 p y, f.2))[j]? = some g := h2
                    rw [List.getElem?_set_ne (fun e => hj e.symm)] at h2'
                    exact P.fl j q g h1 h2' (fun v a1 a2 => by omega)
end Go.Proofs.YtcdebnppbnmmgaaGreat

namespace Go.Proofs.YtcdebnppbnmmgaaGreat
open Go Go.Proofs.YtcdebnppbnmmgaaGreat.X
set_option linter.unusedVariables false
set_option linter.unusedSimpArgs false
theorem xor8 (x y : UInt8) : IntKind.u8.wrap ((BitVec.ofInt IntKind.u8.bits (x.toNat : Int) ^^^ BitVec.ofInt IntKind.u8.bits (y.toNat : Int)).toNat : Int) = ((x ^^^ y).toNat : Int) := by
  have h : ∀ z : UInt8, BitVec.ofInt IntKind.u8.bits (z.toNat : Int) = z.toBitVec := fun z => by
    apply BitVec.eq_of_toNat_eq
    have := z.toNat_lt
    simp [BitVec.toNat_ofInt, IntKind.bits]
  rw [h, h]
  show IntKind.u8.wrap ((x ^^^ y).toNat : Int) = _
  exact X.w_u8 (by have h1 := (x ^^^ y).toNat_lt; omega)
def rotB (l : List UInt8) (p : Nat) (m : UInt8) : List UInt8 := l.set p (l.getD p 0 ^^^ m)
theorem rotB_len (l : List UInt8) (p : Nat) (m : UInt8) : (rotB l p m).length = l.length := by simp [rotB]
theorem rotB_at {l : List UInt8} {p : Nat} {m x : UInt8} (h : l[p]? = some x) : rotB l p m = l.set p (x ^^^ m) := by rw [rotB, List.getD_eq_getElem?_getD, h]; rfl
theorem rotB_out {l : List UInt8} {p : Nat} {m : UInt8} (h : l.length ≤ p) : rotB l p m = l := by rw [rotB, List.set_eq_of_length_le h]
def DS.rot (nm : ByteArray) (a : Int) (m : UInt8) (s : DS) : Int × DS := match asc nm s.dir with
  | none => (52, s)
  | some k => if a < 0 ∨ ((fat s.fs k).1.length : Int) ≤ a then (5, s) else (0, { s with fs := s.fs.set k.toNat (rotB (fat s.fs k).1 a.toNat m, rotB (fat s.fs k).2 a.toNat m) })
set_option maxHeartbeats 4000000 in
set_option maxRecDepth 100000 in
theorem Rot_c {col : Nat → Nat} {b bf bd bx bl : Nat} {A : Option Addr} {n c : Nat} {pt : List Nat} {s0 : DS} (nm : ByteArray) (a : Int) (mk : UInt8) (w : World) (h : DkB col w b bf bd bx bl A n c pt s0) (hok : s0.Ok) (ha : -9223372036854775808 ≤ a ∧ a ≤ 9223372036854775807) : Ret Tryz.prog 29 #[ptrV b, .string nm, .int .i64 a, .int .u8 (mk.toNat : Int)] w fun r w' => r = .int .i64 (s0.rot nm a mk).1 ∧ ∃ col', DkR col' w' b (s0.rot nm a mk).2 ∧ Stp col w col' w' := by
  have hbl := h.B.lt
  have hfl := h.F.lt
  have hdl := h.G.lt
  have hxl := h.X.lt
  have hll := h.L.lt
  have hcb := h.cb
  have hcf := h.cf
  have hcd := h.cd
  have hcx := h.cx
  have hcl := h.cl
  obtain ⟨z1, z2, z3, z4, z5, z6, z7, z8, z9, z10⟩ := h.ne
  have hlt := h.lt
  have hok1 := hok.lf
  have hok2 := hok.few
  refine X.enter Tryz.func29 rfl Tryz.ntmps29 rfl ?_
  refine X.seq ?_
  refine X.region ?_
  refine X.opw X.wN rfl (X.assign rfl) ?_
  refine X.opsEnd ?_
  refine X.seq ?_
  refine X.seq ?_
  refine X.region ?_
  refine X.opw X.wN rfl (X.move rfl) ?_
  refine X.opE X.wN rfl (X.callE (is_c _ h.B) Tryz.call32 rfl rfl) ?_
  rintro _ w1 ⟨rfl, hk1⟩
  have hk1' := hk1.size
  refine X.opw X.wN rfl (X.not_ rfl) ?_
  refine X.opsEnd ?_
  refine X.condF rfl ?_
  refine X.skip ?_
  refine X.seq ?_
  refine X.region ?_
  refine X.opw X.wN rfl (X.move rfl) ?_
  refine X.opw X.wN rfl (X.move (v := .string _) rfl) ?_
  refine X.opE X.wN rfl (X.callE (named_c nm _ (h.B.keep hk1) (h.G.keep hk1) (h.F.keep hk1)) Tryz.call47 rfl rfl) ?_
  rintro _ w2 ⟨rfl, hk2⟩
  have hk2' := hk2.size
  refine X.opw X.wN rfl (X.move rfl) ?_
  refine X.opw X.wN rfl (X.extr rfl rfl) ?_
  refine X.opw X.wN rfl (X.extr rfl rfl) ?_
  refine X.opw X.wN rfl (X.extr rfl rfl) ?_
  refine X.opw X.wN rfl (X.assign (v := .int .i64 _) rfl) ?_
  refine X.opw X.wN rfl (X.assign rfl) ?_
  refine X.opw X.wN rfl (X.assign (v := .bool _) rfl) ?_
  refine X.opsEnd ?_
  refine X.seq ?_
  refine X.seq ?_
  refine X.region ?_
  refine X.opw X.wN rfl (X.move (v := .bool _) rfl) ?_
  refine X.opw X.wN rfl (X.not_ rfl) ?_
  refine X.opsEnd ?_
  refine X.condB rfl (fun hc => ?_) (fun hc => ?_)
  · have hno : asc nm s0.dir = none := by
      cases ha : asc nm s0.dir with
      | none => rfl
      | some k => rw [ha] at hc; simp at hc
    refine X.seq ?_
    refine X.region ?_
    refine X.opw X.wN rfl (X.assign rfl) ?_
    refine X.opsEnd ?_
    refine X.ret1 (v := (.int .i64 _)) Tryz.func29 Tryz.results29 rfl ?_
    have e : s0.rot nm a mk = (52, s0) := by simp only [DS.rot, hno]
    rw [e]
    exact ⟨rfl, col, (h.keep (hk1.trans hk2)).r, Stp.keep (hk1.trans hk2)⟩
  · obtain ⟨k, hfa⟩ : ∃ k, asc nm s0.dir = some k := by
      cases ha : asc nm s0.dir with
      | none => rw [ha] at hc; simp at hc
      | some k => exact ⟨k, rfl⟩
    obtain ⟨hka, hkb, _⟩ := hok.dir _ (asc_some hfa)
    have hka : 0 ≤ k := hka
    have hkb : k < s0.fs.length := hkb
    obtain ⟨pf, f, A1, n1, c1, A2, n2, c2, hfb, hpf, hff, hn1, hn2, hfl1, hpc, hBf, hM1, hM2⟩ := h.at_ hka hkb
    have hlf := hok.len hff
    have hpl2 := hBf.lt
    rw [hfa, Option.getD_some, hfb, Option.getD_some]
    have hfat := fat_at hff
    have hfl2 : f.1.length = n1 := hn1.symm
    have hfl3 : f.2.length = n2 := hn2.symm
    refine X.skip ?_
    refine X.seq ?_
    refine X.seq ?_
    refine X.region ?_
    refine X.opw X.wN rfl (X.move (v := .int .i64 _) rfl) ?_
    refine X.opP X.wN rfl rfl (X.lss rfl rfl) (fun h25 => ?_) (fun h25 => ?_)
    · refine X.opw X.wN rfl (X.move (v := .bool true) rfl) ?_
      refine X.opS rfl rfl rfl rfl rfl ?_
      refine X.opS rfl rfl rfl rfl rfl ?_
      refine X.opS rfl rfl rfl rfl rfl ?_
      refine X.opS rfl rfl rfl rfl rfl ?_
      refine X.opS rfl rfl rfl rfl rfl ?_
      refine X.opS rfl rfl rfl rfl rfl ?_
      refine X.opS rfl rfl rfl rfl rfl ?_
      refine X.opw X.wN rfl (X.pickT (v := .bool true) rfl rfl) ?_
      refine X.opsEnd ?_
      refine X.condT rfl ?_
      refine X.seq ?_
      refine X.region ?_
      refine X.opw X.wN rfl (X.assign rfl) ?_
      refine X.opsEnd ?_
      refine X.ret1 (v := (.int .i64 _)) Tryz.func29 Tryz.results29 rfl ?_
      have e : s0.rot nm a mk = (5, s0) := by
        simp only [DS.rot, hfa, hfat]
        rw [if_pos (by omega)]
      rw [e]
      exact ⟨rfl, col, (h.keep (hk1.trans hk2)).r, Stp.keep (hk1.trans hk2)⟩
    · obtain ⟨p, rfl⟩ := Int.eq_ofNat_of_zero_le (show 0 ≤ a by omega)
      refine X.opw X.wN rfl (X.move (v := .bool false) rfl) ?_
      refine X.opw (X.wG rfl rfl rfl) rfl (X.move (v := .int .i64 _) rfl) ?_
      refine X.opw (X.wG rfl rfl rfl) rfl (X.move rfl) ?_
      refine X.opw (X.wG rfl rfl rfl) rfl (X.nilCk rfl) ?_
      refine X.opw (X.wG rfl rfl rfl) rfl (X.fldB (j := 0) Tryz.underlying87 rfl rfl Tryz.sizeOf31 rfl) ?_
      refine X.opw (X.wG rfl rfl rfl) rfl (X.load1B Tryz.isAgg31 (hBf.keep (hk1.trans hk2)) rfl rfl) ?_
      refine X.opw (X.wG rfl rfl rfl) rfl (X.lenSl Tryz.underlying31 rfl) ?_
      refine X.opP (X.wG rfl rfl rfl) rfl rfl (X.geq rfl rfl) (fun h33 => ?_) (fun h33 => ?_)
      · refine X.opw X.wN rfl (X.pickF (v := .bool true) rfl rfl) ?_
        refine X.opsEnd ?_
        refine X.condT rfl ?_
        refine X.seq ?_
        refine X.region ?_
        refine X.opw X.wN rfl (X.assign rfl) ?_
        refine X.opsEnd ?_
        refine X.ret1 (v := (.int .i64 _)) Tryz.func29 Tryz.results29 rfl ?_
        have e : s0.rot nm (p : Int) mk = (5, s0) := by
          simp only [DS.rot, hfa, hfat]
          rw [if_pos (by omega)]
        rw [e]
        exact ⟨rfl, col, (h.keep (hk1.trans hk2)).r, Stp.keep (hk1.trans hk2)⟩
      · obtain ⟨xb, hxb⟩ := getN p hfl2 (by omega)
        refine X.opw X.wN rfl (X.pickF (v := .bool false) rfl rfl) ?_
        refine X.opsEnd ?_
        refine X.condF rfl ?_
        refine X.skip ?_
        refine X.seq ?_
        refine X.region ?_
        refine X.opw X.wN rfl (X.move rfl) ?_
        refine X.opw X.wN rfl (X.nilCk rfl) ?_
        refine X.opw X.wN rfl (X.fldB (j := 0) Tryz.underlying87 rfl rfl Tryz.sizeOf31 rfl) ?_
        refine X.opw X.wN rfl (X.load1B Tryz.isAgg31 (hBf.keep (hk1.trans hk2)) rfl rfl) ?_
        refine X.opw X.wN rfl (X.move (v := .int .i64 _) rfl) ?_
        refine X.opw X.wN rfl (X.idxS ((hM1.rd KB_flat).2.keep (hk1.trans hk2)) Tryz.underlying31 Tryz.sizeOf5 rfl rfl ⟨by omega, by omega⟩) ?_
        refine X.opw X.wN rfl (X.loadS Tryz.isAgg5 ((hM1.rd KB_flat).2.keep (hk1.trans hk2)) hxb rfl (fun _ h => by rw [h.1]; rfl)) ?_
        refine X.opw X.wN rfl (X.move (v := .int .u8 _) rfl) ?_
        refine X.opw X.wN rfl (X.xor_ rfl rfl (xor8 xb mk)) ?_
        refine X.opw X.wN rfl (X.idxS ((hM1.rd KB_flat).2.keep (hk1.trans hk2)) Tryz.underlying31 Tryz.sizeOf5 rfl rfl ⟨by omega, by omega⟩) ?_
        refine X.opE X.wN rfl (X.storeR (S := fun q => col q = 8 + 3 * k.toNat) Tryz.sizeOf5 ((hM1.keep hk1).keep hk2) (by omega) rfl rfl) ?_
        rintro _ w3 ⟨gM1, hx1, hz1⟩
        refine X.opsEnd ?_
        refine X.seq ?_
        refine X.seq ?_
        refine X.region ?_
        refine X.opw X.wN rfl (X.move (v := .int .i64 _) rfl) ?_
        refine X.opw X.wN rfl (X.move rfl) ?_
        refine X.opw X.wN rfl (X.nilCk rfl) ?_
        refine X.opw X.wN rfl (X.fldB (j := 1) Tryz.underlying87 rfl rfl Tryz.sizeOf31 rfl) ?_
        refine X.opw X.wN rfl (X.load1B Tryz.isAgg31 ((hBf.keep (hk1.trans hk2)).ext hx1 (by first | (intros; (try simp only [] at *); omega) | (intro hh; (try simp only [] at hh); omega) | (intro q h1 h2; (try simp only [] at h1 h2); have := hlt q (by omega); omega) | (intro hh; have hh : _ = _ := hh; subst hh; omega) | (intro q h1 h2; have h2 : q = _ := h2; subst h2; (try simp only [] at h1); omega) | (intro q h1 h2; (try simp only [] at h1 h2); omega) | (intro q h1 h2; have h2 : q = _ := h2; have := hlt q (by (try simp only [] at h1); omega); omega) | (intro q h1 h2; (try simp only [] at h1 h2); rcases h2 with h2 | h2 | h2 <;> first | omega | (subst h2; omega)) | (intro q h1 h2; (try simp only [] at h1 h2); rcases h2 with h2 | h2 | h2 | h2 <;> first | omega | (subst h2; omega)))) rfl rfl) ?_
        refine X.opw X.wN rfl (X.lenSl Tryz.underlying31 rfl) ?_
        refine X.opP X.wN rfl rfl (X.lss rfl rfl) (fun h51 => ?_) (fun h51 => ?_)
        · obtain ⟨xf, hxf⟩ := getN p hfl3 (by omega)
          refine X.opsEnd ?_
          refine X.condT rfl ?_
          refine X.region ?_
          refine X.opw X.wN rfl (X.move rfl) ?_
          refine X.opw X.wN rfl (X.nilCk rfl) ?_
          refine X.opw X.wN rfl (X.fldB (j := 1) Tryz.underlying87 rfl rfl Tryz.sizeOf31 rfl) ?_
          refine X.opw X.wN rfl (X.load1B Tryz.isAgg31 ((hBf.keep (hk1.trans hk2)).ext hx1 (by first | (intros; (try simp only [] at *); omega) | (intro hh; (try simp only [] at hh); omega) | (intro q h1 h2; (try simp only [] at h1 h2); have := hlt q (by omega); omega) | (intro hh; have hh : _ = _ := hh; subst hh; omega) | (intro q h1 h2; have h2 : q = _ := h2; subst h2; (try simp only [] at h1); omega) | (intro q h1 h2; (try simp only [] at h1 h2); omega) | (intro q h1 h2; have h2 : q = _ := h2; have := hlt q (by (try simp only [] at h1); omega); omega) | (intro q h1 h2; (try simp only [] at h1 h2); rcases h2 with h2 | h2 | h2 <;> first | omega | (subst h2; omega)) | (intro q h1 h2; (try simp only [] at h1 h2); rcases h2 with h2 | h2 | h2 | h2 <;> first | omega | (subst h2; omega)))) rfl rfl) ?_
          refine X.opw X.wN rfl (X.move (v := .int .i64 _) rfl) ?_
          refine X.opw X.wN rfl (X.idxS ((((hM2.keep hk1).keep hk2).ext hx1 (by intros; omega) (by first | (intros; (try simp only [] at *); omega) | (intro hh; (try simp only [] at hh); omega) | (intro q h1 h2; (try simp only [] at h1 h2); have := hlt q (by omega); omega) | (intro hh; have hh : _ = _ := hh; subst hh; omega) | (intro q h1 h2; have h2 : q = _ := h2; subst h2; (try simp only [] at h1); omega) | (intro q h1 h2; (try simp only [] at h1 h2); omega) | (intro q h1 h2; have h2 : q = _ := h2; have := hlt q (by (try simp only [] at h1); omega); omega) | (intro q h1 h2; (try simp only [] at h1 h2); rcases h2 with h2 | h2 | h2 <;> first | omega | (subst h2; omega)) | (intro q h1 h2; (try simp only [] at h1 h2); rcases h2 with h2 | h2 | h2 | h2 <;> first | omega | (subst h2; omega)))).rd KB_flat).2 Tryz.underlying31 Tryz.sizeOf5 rfl rfl ⟨by omega, by omega⟩) ?_
          refine X.opw X.wN rfl (X.loadS Tryz.isAgg5 ((((hM2.keep hk1).keep hk2).ext hx1 (by intros; omega) (by first | (intros; (try simp only [] at *); omega) | (intro hh; (try simp only [] at hh); omega) | (intro q h1 h2; (try simp only [] at h1 h2); have := hlt q (by omega); omega) | (intro hh; have hh : _ = _ := hh; subst hh; omega) | (intro q h1 h2; have h2 : q = _ := h2; subst h2; (try simp only [] at h1); omega) | (intro q h1 h2; (try simp only [] at h1 h2); omega) | (intro q h1 h2; have h2 : q = _ := h2; have := hlt q (by (try simp only [] at h1); omega); omega) | (intro q h1 h2; (try simp only [] at h1 h2); rcases h2 with h2 | h2 | h2 <;> first | omega | (subst h2; omega)) | (intro q h1 h2; (try simp only [] at h1 h2); rcases h2 with h2 | h2 | h2 | h2 <;> first | omega | (subst h2; omega)))).rd KB_flat).2 hxf rfl (fun _ h => by rw [h.1]; rfl)) ?_
          refine X.opw X.wN rfl (X.move (v := .int .u8 _) rfl) ?_
          refine X.opw X.wN rfl (X.xor_ rfl rfl (xor8 xf mk)) ?_
          refine X.opw X.wN rfl (X.idxS ((((hM2.keep hk1).keep hk2).ext hx1 (by intros; omega) (by first | (intros; (try simp only [] at *); omega) | (intro hh; (try simp only [] at hh); omega) | (intro q h1 h2; (try simp only [] at h1 h2); have := hlt q (by omega); omega) | (intro hh; have hh : _ = _ := hh; subst hh; omega) | (intro q h1 h2; have h2 : q = _ := h2; subst h2; (try simp only [] at h1); omega) | (intro q h1 h2; (try simp only [] at h1 h2); omega) | (intro q h1 h2; have h2 : q = _ := h2; have := hlt q (by (try simp only [] at h1); omega); omega) | (intro q h1 h2; (try simp only [] at h1 h2); rcases h2 with h2 | h2 | h2 <;> first | omega | (subst h2; omega)) | (intro q h1 h2; (try simp only [] at h1 h2); rcases h2 with h2 | h2 | h2 | h2 <;> first | omega | (subst h2; omega)))).rd KB_flat).2 Tryz.underlying31 Tryz.sizeOf5 rfl rfl ⟨by omega, by omega⟩) ?_
          refine X.opE X.wN rfl (X.storeM (S := fun q => col q = 9 + 3 * k.toNat) Tryz.sizeOf5 (((hM2.keep hk1).keep hk2).ext hx1 (by intros; omega) (by first | (intros; (try simp only [] at *); omega) | (intro hh; (try simp only [] at hh); omega) | (intro q h1 h2; (try simp only [] at h1 h2); have := hlt q (by omega); omega) | (intro hh; have hh : _ = _ := hh; subst hh; omega) | (intro q h1 h2; have h2 : q = _ := h2; subst h2; (try simp only [] at h1); omega) | (intro q h1 h2; (try simp only [] at h1 h2); omega) | (intro q h1 h2; have h2 : q = _ := h2; have := hlt q (by (try simp only [] at h1); omega); omega) | (intro q h1 h2; (try simp only [] at h1 h2); rcases h2 with h2 | h2 | h2 <;> first | omega | (subst h2; omega)) | (intro q h1 h2; (try simp only [] at h1 h2); rcases h2 with h2 | h2 | h2 | h2 <;> first | omega | (subst h2; omega)))) (by omega) rfl rfl) ?_
          rintro _ w4 ⟨gM2, hx2, hz2⟩
          refine X.opsEnd ?_
          refine X.seq ?_
          refine X.region ?_
          refine X.opw X.wN rfl (X.assign rfl) ?_
          refine X.opsEnd ?_
          refine X.ret1 (v := (.int .i64 _)) Tryz.func29 Tryz.results29 rfl ?_
          have hx : Ext (fun q => col q = 8 + 3 * k.toNat ∨ col q = 9 + 3 * k.toNat) w w4 := (Ext.andThen (Ext.andThen (Ext.andThen (Ext.andThen (Ext.refl (fun q => col q = 8 + 3 * k.toNat ∨ col q = 9 + 3 * k.toNat) _) hk1 (by intro q h1 h2; first | exact (h2 : False).elim | ((try simp only [] at h2); omega) | (have h2 : q = _ := h2; subst h2; omega) | (rcases h2 with h2 | h2 | h2 <;> first | omega | (subst h2; omega)))) hk2 (by intro q h1 h2; first | exact (h2 : False).elim | ((try simp only [] at h2); omega) | (have h2 : q = _ := h2; subst h2; omega) | (rcases h2 with h2 | h2 | h2 <;> first | omega | (subst h2; omega)))) hx1 (by intro q h1 h2; first | exact (h2 : False).elim | ((try simp only [] at h2); omega) | (have h2 : q = _ := h2; subst h2; omega) | (rcases h2 with h2 | h2 | h2 <;> first | omega | (subst h2; omega)))) hx2 (by intro q h1 h2; first | exact (h2 : False).elim | ((try simp only [] at h2); omega) | (have h2 : q = _ := h2; subst h2; omega) | (rcases h2 with h2 | h2 | h2 <;> first | omega | (subst h2; omega))))
          have hxs := hx.size
          have hold : ∀ q, q < w.heap.size → col q = col q := fun _ _ => rfl
          have P := h.part (col' := col) (fun v => v = 8 + 3 * k.toNat ∨ v = 9 + 3 * k.toNat) hx hold (fun q hq ht => ht)
          have hst : Stp col w col w4 := ⟨hold, hx.mono (fun q _ t => by (try simp only [] at t); omega)⟩
          have e1 := rotB_at (m := mk) hxb
          have e2 : rotB f.2 p mk = _ := rotB_at hxf
          have e : s0.rot nm (p : Int) mk = (0, { s0 with fs := s0.fs.set k.toNat (rotB f.1 p mk, rotB f.2 p mk) }) := by
            simp only [DS.rot, hfa, hfat]
            rw [if_neg (by omega)]; rfl
          rw [e]
          refine ⟨rfl, col, ⟨bf, bd, bx, bl, A, n, c, pt, ?_, P.F (by omega), P.G (by omega), P.X (by omega), P.L (by omega), P.M (by omega), P.cb, P.cf, P.cd, P.cx, P.cl, fun q hq => Nat.lt_of_lt_of_le (hlt q hq) hxs, ?_, ?_⟩, hst⟩
          · have := P.B (by omega)
            simp only [List.length_set]
            exact this
          · simp only [List.length_set]; exact P.pl
          · intro j q g h1 h2
            by_cases hj : j = k.toNat
            · subst hj
              rw [hpf] at h1
              have h2' : (s0.fs.set k.toNat (rotB f.1 p mk, rotB f.2 p mk))[k.toNat]? = some g := h2
              rw [List.getElem?_set_self (by omega)] at h2'
              cases h1; cases h2'
              exact ⟨(hold _ hpl2).trans hpc, _, _, _, _, _, _, ((((hBf.keep hk1).keep hk2).ext hx1 (by first | (intros; (try simp only [] at *); omega) | (intro hh; (try simp only [] at hh); omega) | (intro q h1 h2; (try simp only [] at h1 h2); have := hlt q (by omega); omega) | (intro hh; have hh : _ = _ := hh; subst hh; omega) | (intro q h1 h2; have h2 : q = _ := h2; subst h2; (try simp only [] at h1); omega) | (intro q h1 h2; (try simp only [] at h1 h2); omega) | (intro q h1 h2; have h2 : q = _ := h2; have := hlt q (by (try simp only [] at h1); omega); omega) | (intro q h1 h2; (try simp only [] at h1 h2); rcases h2 with h2 | h2 | h2 <;> first | omega | (subst h2; omega)) | (intro q h1 h2; (try simp only [] at h1 h2); rcases h2 with h2 | h2 | h2 | h2 <;> first | omega | (subst h2; omega)))).ext hx2 (by first | (intros; (try simp only [] at *); omega) | (intro hh; (try simp only [] at hh); omega) | (intro q h1 h2; (try simp only [] at h1 h2); have := hlt q (by omega); omega) | (intro hh; have hh : _ = _ := hh; subst hh; omega) | (intro q h1 h2; have h2 : q = _ := h2; subst h2; (try simp only [] at h1); omega) | (intro q h1 h2; (try simp only [] at h1 h2); omega) | (intro q h1 h2; have h2 : q = _ := h2; have := hlt q (by (try simp only [] at h1); omega); omega) | (intro q h1 h2; (try simp only [] at h1 h2); rcases h2 with h2 | h2 | h2 <;> first | omega | (subst h2; omega)) | (intro q h1 h2; (try simp only [] at h1 h2); rcases h2 with h2 | h2 | h2 | h2 <;> first | omega | (subst h2; omega)))), (by rw [e1]; exact (gM1.ext hx2 (by intros; omega) (by first | (intros; (try simp only [] at *); omega) | (intro hh; (try simp only [] at hh); omega) | (intro q h1 h2; (try simp only [] at h1 h2); have := hlt q (by omega); omega) | (intro hh; have hh : _ = _ := hh; subst hh; omega) | (intro q h1 h2; have h2 : q = _ := h2; subst h2; (try simp only [] at h1); omega) | (intro q h1 h2; (try simp only [] at h1 h2); omega) | (intro q h1 h2; have h2 : q = _ := h2; have := hlt q (by (try simp only [] at h1); omega); omega) | (intro q h1 h2; (try simp only [] at h1 h2); rcases h2 with h2 | h2 | h2 <;> first | omega | (subst h2; omega)) | (intro q h1 h2; (try simp only [] at h1 h2); rcases h2 with h2 | h2 | h2 | h2 <;> first | omega | (subst h2; omega))))), (by rw [e2]; exact gM2)⟩
            · have h2' : (s0.fs.set k.toNat (rotB f.1 p mk, rotB f.2 p mk))[j]? = some g := h2
              rw [List.getElem?_set_ne (fun e => hj e.symm)] at h2'
              exact P.fl j q g h1 h2' (fun v a1 a2 => by omega)
        · refine X.opsEnd ?_
          refine X.condF rfl ?_
          refine X.skip ?_
          refine X.seq ?_
          refine X.region ?_
          refine X.opw X.wN rfl (X.assign rfl) ?_
          refine X.opsEnd ?_
          refine X.ret1 (v := (.int .i64 _)) Tryz.func29 Tryz.results29 rfl ?_
          have hx : Ext (fun q => col q = 8 + 3 * k.toNat ∨ col q = 9 + 3 * k.toNat) w w3 := (Ext.andThen (Ext.andThen (Ext.andThen (Ext.refl (fun q => col q = 8 + 3 * k.toNat ∨ col q = 9 + 3 * k.toNat) _) hk1 (by intro q h1 h2; first | exact (h2 : False).elim | ((try simp only [] at h2); omega) | (have h2 : q = _ := h2; subst h2; omega) | (rcases h2 with h2 | h2 | h2 <;> first | omega | (subst h2; omega)))) hk2 (by intro q h1 h2; first | exact (h2 : False).elim | ((try simp only [] at h2); omega) | (have h2 : q = _ := h2; subst h2; omega) | (rcases h2 with h2 | h2 | h2 <;> first | omega | (subst h2; omega)))) hx1 (by intro q h1 h2; first | exact (h2 : False).elim | ((try simp only [] at h2); omega) | (have h2 : q = _ := h2; subst h2; omega) | (rcases h2 with h2 | h2 | h2 <;> first | omega | (subst h2; omega))))
          have hxs := hx.size
          have hold : ∀ q, q < w.heap.size → col q = col q := fun _ _ => rfl
          have P := h.part (col' := col) (fun v => v = 8 + 3 * k.toNat ∨ v = 9 + 3 * k.toNat) hx hold (fun q hq ht => ht)
          have hst : Stp col w col w3 := ⟨hold, hx.mono (fun q _ t => by (try simp only [] at t); omega)⟩
          have e1 := rotB_at (m := mk) hxb
          have e2 : rotB f.2 p mk = _ := rotB_out (by omega)
          have e : s0.rot nm (p : Int) mk = (0, { s0 with fs := s0.fs.set k.toNat (rotB f.1 p mk, rotB f.2 p mk) }) := by
            simp only [DS.rot, hfa, hfat]
            rw [if_neg (by omega)]; rfl
          rw [e]
          refine ⟨rfl, col, ⟨bf, bd, bx, bl, A, n, c, pt, ?_, P.F (by omega), P.G (by omega), P.X (by omega), P.L (by omega), P.M (by omega), P.cb, P.cf, P.cd, P.cx, P.cl, fun q hq => Nat.lt_of_lt_of_le (hlt q hq) hxs, ?_, ?_⟩, hst⟩
          · have := P.B (by omega)
            simp only [List.length_set]
            exact this
          · simp only [List.length_set]; exact P.pl
          · intro j q g h1 h2
            by_cases hj : j = k.toNat
            · subst hj
              rw [hpf] at h1
              have h2' : (s0.fs.set k.toNat (rotB f.1 p mk, rotB f.2 p mk))[k.toNat]? = some g := h2
              rw [List.getElem?_set_self (by omega)] at h2'
              cases h1; cases h2'
              exact ⟨(hold _ hpl2).trans hpc, _, _, _, _, _, _, (((hBf.keep hk1).keep hk2).ext hx1 (by first | (intros; (try simp only [] at *); omega) | (intro hh; (try simp only [] at hh); omega) | (intro q h1 h2; (try simp only [] at h1 h2); have := hlt q (by omega); omega) | (intro hh; have hh : _ = _ := hh; subst hh; omega) | (intro q h1 h2; have h2 : q = _ := h2; subst h2; (try simp only [] at h1); omega) | (intro q h1 h2; (try simp only [] at h1 h2); omega) | (intro q h1 h2; have h2 : q = _ := h2; have := hlt q (by (try simp only [] at h1); omega); omega) | (intro q h1 h2; (try simp only [] at h1 h2); rcases h2 with h2 | h2 | h2 <;> first | omega | (subst h2; omega)) | (intro q h1 h2; (try simp only [] at h1 h2); rcases h2 with h2 | h2 | h2 | h2 <;> first | omega | (subst h2; omega)))), (by rw [e1]; exact gM1), (by rw [e2]; exact (((hM2.keep hk1).keep hk2).ext hx1 (by intros; omega) (by first | (intros; (try simp only [] at *); omega) | (intro hh; (try simp only [] at hh); omega) | (intro q h1 h2; (try simp only [] at h1 h2); have := hlt q (by omega); omega) | (intro hh; have hh : _ = _ := hh; subst hh; omega) | (intro q h1 h2; have h2 : q = _ := h2; subst h2; (try simp only [] at h1); omega) | (intro q h1 h2; (try simp only [] at h1 h2); omega) | (intro q h1 h2; have h2 : q = _ := h2; have := hlt q (by (try simp only [] at h1); omega); omega) | (intro q h1 h2; (try simp only [] at h1 h2); rcases h2 with h2 | h2 | h2 <;> first | omega | (subst h2; omega)) | (intro q h1 h2; (try simp only [] at h1 h2); rcases h2 with h2 | h2 | h2 | h2 <;> first | omega | (subst h2; omega)))))⟩
            · have h2' : (s0.fs.set k.toNat (rotB f.1 p mk, rotB f.2 p mk))[j]? = some g := h2
              rw [List.getElem?_set_ne (fun e => hj e.symm)] at h2'
              exact P.fl j q g h1 h2' (fun v a1 a2 => by omega)
section
variable {col : Nat → Nat} {w : World} {b : Nat} {s : DS}
theorem rotR_c (h : DkR col w b s) (hok : s.Ok) (nm : ByteArray) (a : Int) (mk : UInt8) (ha : -9223372036854775808 ≤ a ∧ a ≤ 9223372036854775807) : Ret Tryz.prog 29 #[ptrV b, .string nm, .int .i64 a, .int .u8 (mk.toNat : Int)] w fun r w' => r = .int .i64 (s.rot nm a mk).1 ∧ ∃ col', DkR col' w' b (s.rot nm a mk).2 ∧ Stp col w col' w' := let ⟨_, _, _, _, _, _, _, _, h⟩ := h; Rot_c nm a mk w h hok ha
theorem writeR_c {lo hi m2 cy : Nat} {Ay : Option Addr} {y : List UInt8} (h : DkR col w b s) (hok : s.Ok) (nm : ByteArray) (a : Int) (ha : -9223372036854775808 ≤ a ∧ a ≤ 9223372036854775807) (hy : Sl KB lo hi w Ay m2 y) (hy0 : ∀ q, lo ≤ q → q < hi → col q = 0 ∧ q < w.heap.size) (hym : m2 ≤ 1000000000) : Ret Tryz.prog 13 #[ptrV b, .string nm, .int .i64 a, .slice Ay m2 cy] w fun r w' => r = .int .i64 (s.write nm a y).1 ∧ ∃ col', DkR col' w' b (s.write nm a y).2 ∧ Stp col w col' w' := let ⟨_, _, _, _, _, _, _, _, h⟩ := h; Write_c nm a w h hok ha hy hy0 hym
theorem usedR_c (h : DkR col w b s) (hok : s.Ok) : Ret Tryz.prog 33 #[ptrV b] w fun r w' => r = .int .i64 (s.used : Int) ∧ Keep w w' := let ⟨_, _, _, _, _, _, _, _, h⟩ := h; used_c w h hok
end
end Go.Proofs.YtcdebnppbnmmgaaGreat
