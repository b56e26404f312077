/- Texts that the proof of CacheRuns stands on, part 14. -/
import Derived.Test.YtjjhddjllpihaaaProg
import Derived.Test.YtjjhddjllpihaaaBunCacheRuns13

namespace Go.Proofs.Ytjjhddjllpihaaa
open Go Go.Proofs.Ytjjhddjllpihaaa.X
set_option linter.unusedVariables false
set_option linter.unusedSimpArgs false
section
variable {P : Program} {ρ : Operand → Value} {w : World} {dst : Option Tmp} {ty : TypeId} {pos : String} {aft : Array Edge} {g : Option (Nat × Bool)}
theorem eqBB {T T' : TypeId} {x y : Operand} {a : Bool} (hT : P.underlying T = some .bool) (hx : ρ x = .bool a) (hy : ρ y = .bool a) : Does P ⟨dst, .binOp .eql T x y T', ty, pos, aft, g⟩ ρ w (.bool true) w := by
  have := eqB (dst := dst) (T' := T') (ty := ty) (pos := pos) (aft := aft) (g := g) (w := w) hT hx hy
  simpa using this
end
def Ca.stp (s : Ca) (kd : Int) (k : PKEY) (p : List CD) : Ca := if kd = 1 then s.get k else if kd = 2 then s.put k p else if kd = 3 then s.drop k.1 else s
theorem Told.row {S : Nat → Prop} {w : World} {A : Option Addr} {n c : Nat} {p : List CD} (h : Told S w (.slice A n c) p) : ∃ l, Mine KCt 76 S 0 0 w (.slice A n c) l := by
  obtain ⟨A', c', l, TB, e, _, h3, _⟩ := h
  rw [← e] at h3
  exact ⟨l, h3.mono fun k _ h => h.1⟩
theorem CaIn.okL {T : Nat → Prop} {w : World} {bc : Nat} {s : Ca} (h : CaIn T w bc s) : ∀ q, q ∈ s.L → okPg q.2 := by
  obtain ⟨bm, A, n, c, mm, TR, TD, hB, hM, hG, hP, hS⟩ := h; exact hP.ok
theorem ReIn.lt {TB : Nat → Prop} {w : World} {rb : Nat} {s : Ca} (h : ReIn TB w rb s) : (∀ k, TB k → k < w.heap.size) ∧ rb < w.heap.size ∧ ¬ TB rb := by
  obtain ⟨A, n, c, hs, lo, hi, h1, h2, h3, h4, h5, h6, h7, h8⟩ := h; exact ⟨h8, h1.lt, h7⟩
-- f16 "pedigree/pedigreelaw08.step" params [24, 39, 44] results [4] -> [(ResultVar.tmp 6)] nfree 0 ntmps 91 n
set_option maxHeartbeats 4000000 in
set_option maxRecDepth 100000 in
theorem step_c {TT TB : Nat → Prop} {bc rb lo hi0 : Nat} {cs : Ca} (x : OH) (pg : List CD) (w : World) (hC : CaIn TT w bc cs) (hR : ReIn TB w rb cs) (hd : ∀ k, TT k → ¬ TB k) (hrT : ¬ TT rb) (hpo : Sl KC lo hi0 w x.2.2.1 x.2.2.2.1 pg) (hhi0 : hi0 ≤ w.heap.size) (hpT : ∀ k, lo ≤ k → k < hi0 → ¬ TT k) (hpR : ∀ k, lo ≤ k → k < hi0 → ¬ k = rb) (hok : okPg pg) (hLn : cs.L.length ≤ 10000) (hh : -1000000 ≤ cs.h ∧ cs.h ≤ 1000000) (hm : -1000000 ≤ cs.m ∧ cs.m ≤ 1000000) (hg : -1000000 ≤ cs.g ∧ cs.g ≤ 1000000) (hlr : (cs.L.length : Int) ≤ cs.room) :
  Ret Try.prog 16 #[ptrV bc, ptrV rb, evO x] w fun r w' => r = .bool true ∧ ∃ TT' TB', CaIn TT' w' bc (cs.stp x.1 x.2.1 pg) ∧ ReIn TB' w' rb (cs.stp x.1 x.2.1 pg) ∧ (∀ k, TT' k → TT k ∨ w.heap.size ≤ k) ∧ (∀ k, TB' k → TB k ∨ w.heap.size ≤ k) ∧ (∀ k, TT' k → ¬ TB' k) ∧ Ext (fun q => TT q ∨ q = rb) w w' := by
  have hTl := hC.lt
  obtain ⟨hBl, hrl, hrB⟩ := hR.lt
  have hpn := hpo.len
  refine X.enter Try.func16 rfl Try.ntmps16 rfl ?_
  refine X.seq ?_
  refine X.region ?_
  refine X.opE X.wN rfl (X.boxE rfl rfl) ?_
  rintro _ w1 ⟨rfl, hB1, hk1, hz1⟩
  refine X.opw X.wN rfl (X.assign rfl) ?_
  refine X.opsEnd ?_
  refine X.seq ?_
  refine X.region ?_
  refine X.opw X.wN rfl (X.fldB (j := 0) Try.underlying44 rfl rfl Try.sizeOf3 rfl) ?_
  refine X.opw X.wN rfl (X.load1B Try.isAgg3 hB1 rfl rfl) ?_
  refine X.opsEnd ?_
  refine X.block ?_
  refine X.seq ?_
  refine X.region ?_
  refine X.opP X.wN rfl rfl (X.eqI rfl rfl) (fun h18 => ?_) (fun h18 => ?_)
  · refine X.opw X.wN rfl (X.assign (v := .bool true) rfl) ?_
    refine X.opsEnd ?_
    refine X.condT rfl ?_
    refine X.seq ?_
    refine X.region ?_
    refine X.opw X.wN rfl (X.move rfl) ?_
    refine X.opw X.wN rfl (X.fldB (j := 1) Try.underlying44 rfl rfl Try.sizeOf30 rfl) ?_
    refine X.opw X.wN rfl (X.loadNB Try.isAgg30 Try.sizeOf30 hB1 rfl rfl rfl) ?_
    refine X.opE X.wN rfl (X.callE (Get_c x.2.1 _ (hC.keep hk1) hLn hh hm) Try.call22 rfl rfl) ?_
    rintro _ w2 ⟨ga, gb, hga, hgb, hgw, ⟨v, rfl, hTo⟩, hC2, hx2⟩
    have hx2' := hx2.size
    refine X.opw X.wN rfl (X.move rfl) ?_
    refine X.opw X.wN rfl (X.extr rfl rfl) ?_
    refine X.opw X.wN rfl (X.extr rfl rfl) ?_
    refine X.opw X.wN rfl (X.assign rfl) ?_
    refine X.opw X.wN rfl (X.assign (v := .bool _) rfl) ?_
    refine X.opsEnd ?_
    refine X.seq ?_
    refine X.region ?_
    refine X.opw X.wN rfl (X.move rfl) ?_
    refine X.opw X.wN rfl (X.fldB (j := 1) Try.underlying44 rfl rfl Try.sizeOf30 rfl) ?_
    refine X.opw X.wN rfl (X.loadNB Try.isAgg30 Try.sizeOf30 (hB1.ext hx2 (by first | (intros; (try simp only []); omega) | exact fun h => by (have := hTl _ h; omega) | exact fun h => h.elim (fun h => by (have := hTl _ h; omega)) (fun h => by (have h : _ = rb := h; omega)))) rfl rfl rfl) ?_
    obtain ⟨pA, pc, rfl, hpc, hpS⟩ := hTo.sl
    obtain ⟨pl, hpl⟩ := hTo.row
    have hpll := hpl.len
    have hpb := hpS.bound
    refine X.opE X.wN rfl (X.callE (RGet_c x.2.1 _ ((hR.keep hk1).ext hx2 (fun k h1 h2 => hd k h2 h1) (hrT)) hC.okL hLn hh hm) Try.call30 rfl rfl) ?_
    rintro _ w3 ⟨qA, qc, rfl, hqS, hR2, hx3⟩
    have hx3' := hx3.size
    refine X.opw X.wN rfl (X.move rfl) ?_
    refine X.opw X.wN rfl (X.extr rfl rfl) ?_
    refine X.opw X.wN rfl (X.extr rfl rfl) ?_
    refine X.opw X.wN rfl (X.assign rfl) ?_
    refine X.opw X.wN rfl (X.assign (v := .bool _) rfl) ?_
    refine X.opsEnd ?_
    refine X.seq ?_
    refine X.region ?_
    refine X.opw X.wN rfl (X.move rfl) ?_
    refine X.opw X.wN rfl (X.move rfl) ?_
    refine X.opE X.wN rfl (X.callE (Same_e _ (hpS.ext hx3 (fun k h1 h2 h3 => by have h3 : k = rb := h3; omega)) hqS) Try.call24 rfl rfl) ?_
    rintro _ w4 ⟨rfl, hk4⟩
    have hk4' := hk4.size
    refine X.opw X.wN rfl (X.move (v := .bool true) rfl) ?_
    refine X.opw (X.wG rfl rfl rfl) rfl (X.move (v := .bool _) rfl) ?_
    refine X.opw (X.wG rfl rfl rfl) rfl (X.move (v := .bool _) rfl) ?_
    refine X.opw (X.wG rfl rfl rfl) rfl (eqBB Try.underlying4 rfl rfl) ?_
    refine X.opw X.wN rfl (X.pickT (v := .bool true) rfl rfl) ?_
    refine X.opw X.wN rfl (X.assign (v := .bool true) rfl) ?_
    refine X.opsEnd ?_
    refine X.seq ?_
    refine X.seq ?_
    refine X.region ?_
    refine X.opw X.wN rfl (X.assign rfl) ?_
    refine X.opsEnd ?_
    refine X.block ?_
    -- LOOP live: 7=p, 11=good, 12=i*
    refine X.loopL (σ := Nat × List CT) (fun s => [(7, .slice pA ((asc x.2.1 cs.L).getD []).length pc), (11, .bool true), (12, .int .i64 (s.1 : Int))]) (fun s w' => s.1 ≤ ((asc x.2.1 cs.L).getD []).length ∧ s.2.length = ((asc x.2.1 cs.L).getD []).length ∧ Mine KCt 76 (fun q => gb ≤ q ∧ q < w2.heap.size) 0 0 w' (.slice pA ((asc x.2.1 cs.L).getD []).length pc) s.2 ∧ Ext (fun q => gb ≤ q ∧ q < w2.heap.size) w4 w') (fun s => ((asc x.2.1 cs.L).getD []).length - s.1) (0, pl) ⟨rfl, rfl, rfl, trivial⟩ ⟨Nat.zero_le _, hpll, ((hpl.ext hx3 (by intros; omega) (fun k h1 h2 => by have h2 : k = rb := h2; omega)).keep hk4), Ext.refl _ _⟩ ?_
    rintro ⟨i, l⟩ b0 wl ⟨hi, hll, hMo, hxl⟩ hback1
    dsimp only
    simp only at hi hll hMo
    have hxl' := hxl.size
    refine X.seq ?_
    refine X.seq ?_
    refine X.region ?_
    refine X.opw X.wN rfl (X.move (v := .int .i64 _) rfl) ?_
    refine X.opw X.wN rfl (X.move (v := .slice _ _ _) rfl) ?_
    refine X.opw X.wN rfl (X.lenSl Try.underlying33 rfl) ?_
    refine X.opP X.wN rfl rfl (X.lss rfl rfl) (fun h44 => ?_) (fun h44 => ?_)
    · refine X.opsEnd ?_
      refine X.condT rfl ?_
      refine X.skip ?_
      refine X.seq ?_
      refine X.block ?_
      refine X.region ?_
      refine X.opw X.wN rfl (X.move (v := .slice _ _ _) rfl) ?_
      refine X.opw X.wN rfl (X.move (v := .int .i64 _) rfl) ?_
      refine X.opw X.wN rfl (X.buildB (vs := [(1, .int .i64 (-7))]) (cs := #[.slice none 0 0, .int .i64 (-7)]) rfl (by kernel_rfl)) ?_
      refine X.opw X.wN rfl (X.idxS (mine_0 KCt_flat hMo 0 (fun _ _ => Nat.zero_le _)) Try.underlying33 Try.sizeOf76 rfl rfl ⟨by omega, by omega⟩) ?_
      refine X.opE X.wN rfl (X.storeME (K := KCt) (j := i) (y' := ((none, 0, 0), -7)) (vs := [.slice none 0 0, .int .i64 (-7)]) KCt_flat Try.sizeOf76 hMo (by omega) rfl rfl rfl (fun u hu => by simp at hu; rcases hu with rfl | rfl <;> rfl) rfl ⟨rfl, trivial⟩) ?_
      rintro _ w5 ⟨hM5, hx5, hz5⟩
      refine X.opsEnd ?_
      refine X.inBlock ?_
      refine X.region ?_
      refine X.opw X.wN rfl (X.move (v := .int .i64 _) rfl) ?_
      refine X.opw X.wN rfl (X.add rfl rfl (X.w_i64 (by omega))) ?_
      refine X.opw X.wN rfl (X.assign (v := .int .i64 _) rfl) ?_
      refine X.opsEnd ?_
      refine hback1 (i + 1, l.set i ((none, 0, 0), -7)) _ _ ⟨rfl, rfl, rfl, trivial⟩ ⟨by dsimp only; omega, by dsimp only; rw [List.length_set]; exact hll, hM5, (Ext.andThen hxl hx5 (fun q _ h => h))⟩ (by dsimp only; omega)
    · refine X.opsEnd ?_
      refine X.condF rfl ?_
      refine X.exit rfl ?_
      refine X.seq ?_
      refine X.region ?_
      refine X.opw X.wN rfl (X.move (v := .bool true) rfl) ?_
      refine X.opw X.wN rfl (X.assign (v := .bool true) rfl) ?_
      refine X.opsEnd ?_
      refine X.ret1 (v := (.bool _)) Try.func16 Try.results16 rfl ?_
      rw [show cs.stp x.1 x.2.1 pg = cs.get x.2.1 from by rw [Ca.stp, if_pos (by omega)]]
      exact ⟨rfl, _, _, (((hC2.ext hx3 (fun k h1 h2 => by have h2 : k = rb := h2; subst h2; first | exact hrT h1 | exact h1.elim hrT (fun h => by omega))).keep hk4).ext hxl (fun k h1 h2 => by first | (have := hTl k h1; omega) | exact h1.elim (fun h => by have := hTl k h; omega) (fun h => by omega))), ((hR2.keep hk4).ext hxl (fun k h1 h2 => by first | (have := hBl k h1; omega) | exact h1.elim (fun h => by have := hBl k h; omega) (fun h => by omega)) (fun h => by omega)), fun k h => h.imp id (fun h => by omega), fun k h => h.imp id (fun h => by omega), fun k h1 h2 => h1.elim (fun h1 => h2.elim (hd k h1) (fun h2 => by have := hTl k h1; omega)) (fun h1 => h2.elim (fun h2 => by have := hBl k h2; omega) (fun h2 => by omega)), (Ext.andThen (Ext.andThen (Ext.andThen (Ext.andThen (Ext.andThen (Ext.refl (fun q => TT q ∨ q = rb) _) hk1 (by intro q h1 h2; first | exact (h2 : False).elim | exact .inl h2 | exact .inr h2 | (exfalso; have h2 := h2; (try simp only [] at h2); omega))) hx2 (by intro q h1 h2; first | exact (h2 : False).elim | exact .inl h2 | exact .inr h2 | (exfalso; have h2 := h2; (try simp only [] at h2); omega))) hx3 (by intro q h1 h2; first | exact (h2 : False).elim | exact .inl h2 | exact .inr h2 | (exfalso; have h2 := h2; (try simp only [] at h2); omega))) hk4 (by intro q h1 h2; first | exact (h2 : False).elim | exact .inl h2 | exact .inr h2 | (exfalso; have h2 := h2; (try simp only [] at h2); omega))) hxl (by intro q h1 h2; first | exact (h2 : False).elim | exact .inl h2 | exact .inr h2 | (exfalso; have h2 := h2; (try simp only [] at h2); omega)))⟩
  · refine X.opw X.wN rfl (X.assign (v := .bool false) rfl) ?_
    refine X.opsEnd ?_
    refine X.condF rfl ?_
    refine X.seq ?_
    refine X.region ?_
    refine X.opP X.wN rfl rfl (X.eqI rfl rfl) (fun h53 => ?_) (fun h53 => ?_)
    · refine X.opw X.wN rfl (X.assign (v := .bool true) rfl) ?_
      refine X.opsEnd ?_
      refine X.condT rfl ?_
      refine X.seq ?_
      refine X.region ?_
      refine X.opw X.wN rfl (X.fldB (j := 3) Try.underlying44 rfl rfl Try.sizeOf33 rfl) ?_
      refine X.opw X.wN rfl (X.load1B Try.isAgg33 hB1 rfl rfl) ?_
      refine X.opE X.wN rfl (X.callE (RCopy_t _ (hpo.keep hk1) (by omega) hok) Try.call20 rfl rfl) ?_
      rintro v w6 ⟨hTo, hk6⟩
      have hk6' := hk6.size
      refine X.opw X.wN rfl (X.assign rfl) ?_
      refine X.opsEnd ?_
      refine X.seq ?_
      refine X.region ?_
      refine X.opw X.wN rfl (X.move rfl) ?_
      refine X.opw X.wN rfl (X.fldB (j := 1) Try.underlying44 rfl rfl Try.sizeOf30 rfl) ?_
      refine X.opw X.wN rfl (X.loadNB Try.isAgg30 Try.sizeOf30 (hB1.keep hk6) rfl rfl rfl) ?_
      refine X.opw X.wN rfl (X.move rfl) ?_
      obtain ⟨pA, pc, rfl, hpc, hpS⟩ := hTo.sl
      obtain ⟨pl, hpl⟩ := hTo.row
      have hpll := hpl.len
      have hpb := hpS.bound
      refine X.opE X.wN rfl (X.callE (Put_c x.2.1 _ ((hC.keep hk1).keep hk6) hpS (by omega) hok hLn hg (by omega)) Try.call10 rfl rfl) ?_
      rintro _ w7 ⟨rfl, hC2, hx7⟩
      have hx7' := hx7.size
      refine X.opsEnd ?_
      refine X.seq ?_
      refine X.region ?_
      refine X.opw X.wN rfl (X.move rfl) ?_
      refine X.opw X.wN rfl (X.fldB (j := 1) Try.underlying44 rfl rfl Try.sizeOf30 rfl) ?_
      refine X.opw X.wN rfl (X.loadNB Try.isAgg30 Try.sizeOf30 ((hB1.keep hk6).ext hx7 (by first | (intros; (try simp only []); omega) | exact fun h => by (have := hTl _ h; omega) | exact fun h => h.elim (fun h => by (have := hTl _ h; omega)) (fun h => by (have h : _ = rb := h; omega)))) rfl rfl rfl) ?_
      refine X.opw X.wN rfl (X.fldB (j := 3) Try.underlying44 rfl rfl Try.sizeOf33 rfl) ?_
      refine X.opw X.wN rfl (X.load1B Try.isAgg33 ((hB1.keep hk6).ext hx7 (by first | (intros; (try simp only []); omega) | exact fun h => by (have := hTl _ h; omega) | exact fun h => h.elim (fun h => by (have := hTl _ h; omega)) (fun h => by (have h : _ = rb := h; omega)))) rfl rfl) ?_
      refine X.opE X.wN rfl (X.callE (RPut_c x.2.1 _ (((hR.keep hk1).keep hk6).ext hx7 (fun k h1 h2 => hd k h2 h1) (hrT)) (((hpo.keep hk1).keep hk6).ext hx7 (fun k h1 h2 h3 => hpT k h1 h2 h3)) (by omega) hok hLn hg (by omega) hlr) Try.call31 rfl rfl) ?_
      rintro _ w8 ⟨rfl, hR2, hx8⟩
      have hx8' := hx8.size
      refine X.opsEnd ?_
      refine X.seq ?_
      refine X.seq ?_
      refine X.region ?_
      refine X.opw X.wN rfl (X.assign rfl) ?_
      refine X.opsEnd ?_
      refine X.block ?_
      -- LOOP live: 13=mine, 14=i*
      refine X.loopL (σ := Nat × List CT) (fun s => [(13, .slice pA pg.length pc), (14, .int .i64 (s.1 : Int))]) (fun s w' => s.1 ≤ pg.length ∧ s.2.length = pg.length ∧ Mine KCt 76 (fun q => w1.heap.size ≤ q ∧ q < w6.heap.size) 0 0 w' (.slice pA pg.length pc) s.2 ∧ Ext (fun q => w1.heap.size ≤ q ∧ q < w6.heap.size) w8 w') (fun s => pg.length - s.1) (0, pl) ⟨rfl, rfl, trivial⟩ ⟨Nat.zero_le _, hpll, ((hpl.ext hx7 (by intros; omega) (fun k h1 h2 => by have := hTl k h2; omega)).ext hx8 (by intros; omega) (fun k h1 h2 => by have h2 : k = rb := h2; omega)), Ext.refl _ _⟩ ?_
      rintro ⟨i, l⟩ b0 wl ⟨hi, hll, hMo, hxl⟩ hback2
      dsimp only
      simp only at hi hll hMo
      have hxl' := hxl.size
      refine X.seq ?_
      refine X.seq ?_
      refine X.region ?_
      refine X.opw X.wN rfl (X.move (v := .int .i64 _) rfl) ?_
      refine X.opw X.wN rfl (X.move (v := .slice _ _ _) rfl) ?_
      refine X.opw X.wN rfl (X.lenSl Try.underlying33 rfl) ?_
      refine X.opP X.wN rfl rfl (X.lss rfl rfl) (fun h71 => ?_) (fun h71 => ?_)
      · refine X.opsEnd ?_
        refine X.condT rfl ?_
        refine X.skip ?_
        refine X.seq ?_
        refine X.block ?_
        refine X.region ?_
        refine X.opw X.wN rfl (X.move (v := .slice _ _ _) rfl) ?_
        refine X.opw X.wN rfl (X.move (v := .int .i64 _) rfl) ?_
        refine X.opw X.wN rfl (X.buildB (vs := [(1, .int .i64 (-8))]) (cs := #[.slice none 0 0, .int .i64 (-8)]) rfl (by kernel_rfl)) ?_
        refine X.opw X.wN rfl (X.idxS (mine_0 KCt_flat hMo 0 (fun _ _ => Nat.zero_le _)) Try.underlying33 Try.sizeOf76 rfl rfl ⟨by omega, by omega⟩) ?_
        refine X.opE X.wN rfl (X.storeME (K := KCt) (j := i) (y' := ((none, 0, 0), -8)) (vs := [.slice none 0 0, .int .i64 (-8)]) KCt_flat Try.sizeOf76 hMo (by omega) rfl rfl rfl (fun u hu => by simp at hu; rcases hu with rfl | rfl <;> rfl) rfl ⟨rfl, trivial⟩) ?_
        rintro _ w9 ⟨hM9, hx9, hz9⟩
        refine X.opsEnd ?_
        refine X.inBlock ?_
        refine X.region ?_
        refine X.opw X.wN rfl (X.move (v := .int .i64 _) rfl) ?_
        refine X.opw X.wN rfl (X.add rfl rfl (X.w_i64 (by omega))) ?_
        refine X.opw X.wN rfl (X.assign (v := .int .i64 _) rfl) ?_
        refine X.opsEnd ?_
        refine hback2 (i + 1, l.set i ((none, 0, 0), -8)) _ _ ⟨rfl, rfl, trivial⟩ ⟨by dsimp only; omega, by dsimp only; rw [List.length_set]; exact hll, hM9, (Ext.andThen hxl hx9 (fun q _ h => h))⟩ (by dsimp only; omega)
      · refine X.opsEnd ?_
        refine X.condF rfl ?_
        refine X.exit rfl ?_
        refine X.seq ?_
        refine X.region ?_
        refine X.opw X.wN rfl (X.assign rfl) ?_
        refine X.opsEnd ?_
        refine X.ret1 (v := (.bool _)) Try.func16 Try.results16 rfl ?_
        rw [show cs.stp x.1 x.2.1 pg = cs.put x.2.1 pg from by rw [Ca.stp, if_neg (by omega), if_pos (by omega)]]
        exact ⟨rfl, _, _, ((hC2.ext hx8 (fun k h1 h2 => by have h2 : k = rb := h2; subst h2; first | exact hrT h1 | exact h1.elim hrT (fun h => by omega))).ext hxl (fun k h1 h2 => by first | (have := hTl k h1; omega) | exact h1.elim (fun h => by have := hTl k h; omega) (fun h => by omega))), (hR2.ext hxl (fun k h1 h2 => by first | (have := hBl k h1; omega) | exact h1.elim (fun h => by have := hBl k h; omega) (fun h => by omega)) (fun h => by omega)), fun k h => h.imp id (fun h => by omega), fun k h => h.imp id (fun h => by omega), fun k h1 h2 => h1.elim (fun h1 => h2.elim (hd k h1) (fun h2 => by have := hTl k h1; omega)) (fun h1 => h2.elim (fun h2 => by have := hBl k h2; omega) (fun h2 => by omega)), (Ext.andThen (Ext.andThen (Ext.andThen (Ext.andThen (Ext.andThen (Ext.refl (fun q => TT q ∨ q = rb) _) hk1 (by intro q h1 h2; first | exact (h2 : False).elim | exact .inl h2 | exact .inr h2 | (exfalso; have h2 := h2; (try simp only [] at h2); omega))) hk6 (by intro q h1 h2; first | exact (h2 : False).elim | exact .inl h2 | exact .inr h2 | (exfalso; have h2 := h2; (try simp only [] at h2); omega))) hx7 (by intro q h1 h2; first | exact (h2 : False).elim | exact .inl h2 | exact .inr h2 | (exfalso; have h2 := h2; (try simp only [] at h2); omega))) hx8 (by intro q h1 h2; first | exact (h2 : False).elim | exact .inl h2 | exact .inr h2 | (exfalso; have h2 := h2; (try simp only [] at h2); omega))) hxl (by intro q h1 h2; first | exact (h2 : False).elim | exact .inl h2 | exact .inr h2 | (exfalso; have h2 := h2; (try simp only [] at h2); omega)))⟩
    · refine X.opw X.wN rfl (X.assign (v := .bool false) rfl) ?_
      refine X.opsEnd ?_
      refine X.condF rfl ?_
      refine X.seq ?_
      refine X.region ?_
      refine X.opP X.wN rfl rfl (X.eqI rfl rfl) (fun h79 => ?_) (fun h79 => ?_)
      · refine X.opw X.wN rfl (X.assign (v := .bool true) rfl) ?_
        refine X.opsEnd ?_
        refine X.condT rfl ?_
        refine X.seq ?_
        refine X.regionD (fun q => TT q ∨ q = rb) 11 (by kernel_rfl) (by kernel_rfl) (fun w10 hk10 hz10 => ?_)
        refine X.dTake 0 rfl (by kernel_rfl) (by kernel_rfl) (by kernel_rfl) (X.dwN rfl) (fun w' hk' => X.move rfl) ?_
        refine X.dTake 1 rfl (by kernel_rfl) (by kernel_rfl) (by kernel_rfl) (X.dwN rfl) (fun w' hk' => X.fldB (j := 1) Try.underlying44 rfl rfl Try.sizeOf30 rfl) ?_
        refine X.dTake 2 rfl (by kernel_rfl) (by kernel_rfl) (by kernel_rfl) (X.dwN rfl) (fun w' hk' => X.fldB (j := 1) Try.underlying30 rfl rfl Try.sizeOf9 rfl) ?_
        refine X.dTake 3 rfl (by kernel_rfl) (by kernel_rfl) (by kernel_rfl) (X.dwN rfl) (fun w' hk' => X.load1B Try.isAgg9 ((hB1.keep hk10).ext hk' (by first | (intros; (try simp only []); omega) | exact fun h => by (have := hTl _ h; omega) | exact fun h => h.elim (fun h => by (have := hTl _ h; omega)) (fun h => by (have h : _ = rb := h; omega)))) rfl rfl) ?_
        refine X.dTake 5 rfl (by kernel_rfl) (by kernel_rfl) (by kernel_rfl) (X.dwN rfl) (fun w' hk' => X.move rfl) ?_
        refine X.dTake 6 rfl (by kernel_rfl) (by kernel_rfl) (by kernel_rfl) (X.dwN rfl) (fun w' hk' => X.fldB (j := 1) Try.underlying44 rfl rfl Try.sizeOf30 rfl) ?_
        refine X.dTake 7 rfl (by kernel_rfl) (by kernel_rfl) (by kernel_rfl) (X.dwN rfl) (fun w' hk' => X.fldB (j := 1) Try.underlying30 rfl rfl Try.sizeOf9 rfl) ?_
        refine X.dTake 8 rfl (by kernel_rfl) (by kernel_rfl) (by kernel_rfl) (X.dwN rfl) (fun w' hk' => X.load1B Try.isAgg9 ((hB1.keep hk10).ext hk' (by first | (intros; (try simp only []); omega) | exact fun h => by (have := hTl _ h; omega) | exact fun h => h.elim (fun h => by (have := hTl _ h; omega)) (fun h => by (have h : _ = rb := h; omega)))) rfl rfl) ?_
        refine X.dE (i := 4) (by kernel_rfl) rfl (X.dwN rfl) (X.callE (Drop_c x.2.1.1 _ ((hC.keep hk1).keep hk10) hLn) Try.call21 rfl rfl) (by rintro _ w11 ⟨rfl, hC2, hx11⟩ _; exact hx11.mono (fun _ _ h => .inl h)) ?_
        rintro _ w11 ⟨rfl, hC2, hx11⟩
        have hx11' := hx11.size
        refine X.dE (i := 9) (by kernel_rfl) rfl (X.dwN rfl) (X.callE (RDrop_c x.2.1.1 _ (((hR.keep hk1).keep hk10).ext hx11 (fun k h1 h2 => hd k h2 h1) (hrT)) hLn) Try.call32 rfl rfl) (by rintro _ w12 ⟨rfl, hR2, hx12⟩ _; exact hx12.mono (fun _ _ h => .inr h)) ?_
        rintro _ w12 ⟨rfl, hR2, hx12⟩
        have hx12' := hx12.size
        refine X.dTake 10 rfl (by kernel_rfl) (by kernel_rfl) (by kernel_rfl) (X.dwN rfl) (fun w' hk' => X.eqI rfl rfl) ?_
        refine X.dStep (i := 11) (by kernel_rfl) rfl (X.dwN rfl) (X.assign (v := .bool _) rfl) (fun h => absurd h (by decide)) ?_
        refine X.dEnd (by kernel_rfl) ?_
        refine X.ret1 (v := (.bool _)) Try.func16 Try.results16 rfl ?_
        rw [show cs.stp x.1 x.2.1 pg = cs.drop x.2.1.1 from by rw [Ca.stp, if_neg (by omega), if_neg (by omega), if_pos (by omega)]]
        exact ⟨by simp, _, _, (hC2.ext hx12 (fun k h1 h2 => by have h2 : k = rb := h2; subst h2; first | exact hrT h1 | exact h1.elim hrT (fun h => by omega))), hR2, fun k h => .inl h, fun k h => h.imp id (fun h => by omega), fun k h1 h2 => h2.elim (hd k h1) (fun h2 => by have := hTl k h1; omega), (Ext.andThen (Ext.andThen (Ext.andThen (Ext.andThen (Ext.refl (fun q => TT q ∨ q = rb) _) hk1 (by intro q h1 h2; first | exact (h2 : False).elim | exact .inl h2 | exact .inr h2 | (exfalso; have h2 := h2; (try simp only [] at h2); omega))) hk10 (by intro q h1 h2; first | exact (h2 : False).elim | exact .inl h2 | exact .inr h2 | (exfalso; have h2 := h2; (try simp only [] at h2); omega))) hx11 (by intro q h1 h2; first | exact (h2 : False).elim | exact .inl h2 | exact .inr h2 | (exfalso; have h2 := h2; (try simp only [] at h2); omega))) hx12 (by intro q h1 h2; first | exact (h2 : False).elim | exact .inl h2 | exact .inr h2 | (exfalso; have h2 := h2; (try simp only [] at h2); omega)))⟩
      · refine X.opw X.wN rfl (X.assign (v := .bool false) rfl) ?_
        refine X.opsEnd ?_
        refine X.condF rfl ?_
        refine X.seq ?_
        refine X.region ?_
        refine X.opw X.wN rfl (X.assign rfl) ?_
        refine X.opsEnd ?_
        refine X.ret1 (v := (.bool _)) Try.func16 Try.results16 rfl ?_
        rw [show cs.stp x.1 x.2.1 pg = cs by rw [Ca.stp, if_neg (by omega), if_neg (by omega), if_neg (by omega)]]
        exact ⟨rfl, TT, TB, (hC.keep hk1), (hR.keep hk1), fun k h => .inl h, fun k h => .inl h, hd, (Ext.andThen (Ext.refl (fun q => TT q ∨ q = rb) _) hk1 (by intro q h1 h2; first | exact (h2 : False).elim | exact .inl h2 | exact .inr h2 | (exfalso; have h2 := h2; (try simp only [] at h2); omega)))⟩
end Go.Proofs.Ytjjhddjllpihaaa

namespace Go.Proofs.Ytjjhddjllpihaaa
open Go Go.Proofs.Ytjjhddjllpihaaa.X
set_option linter.unusedVariables false
set_option linter.unusedSimpArgs false
section
variable {P : Program} {ρ : Operand → Value} {w : World} {dst : Option Tmp} {ty : TypeId} {pos : String} {aft : Array Edge} {g : Option (Nat × Bool)}
theorem neI0 {kd : IntKind} {T T' : TypeId} {x y : Operand} {a : Int} (hx : ρ x = .int kd a) (hy : ρ y = .int kd a) : Does P ⟨dst, .binOp .neq T x y T', ty, pos, aft, g⟩ ρ w (.bool false) w := by
  have := neI (P := P) (dst := dst) (T := T) (T' := T') (ty := ty) (pos := pos) (aft := aft) (g := g) (w := w) hx hy
  simpa using this
end
theorem eqStT (a b c : Int) (w : World) : (Op.equalIn 10000 47 (.agg #[.int .i64 a, .int .i64 b, .int .i64 c]) (.agg #[.int .i64 a, .int .i64 b, .int .i64 c])).run Try.prog w = .ok true w := by have := eqSt (a, b, c) (a, b, c) w; simpa using this
theorem New_bad (rm : Int) (h : rm < 0 ∨ 1024 < rm) (w : World) : Ret Try.prog 8 #[.int .i64 rm] w fun r w' => r = .tuple #[.pointer none, .int .i64 80] ∧ Keep w w' :=
  (New_c rm w).mono fun r w' q => by
    rcases q with ⟨_, h1, h2⟩ | ⟨h1, _⟩
    · exact ⟨h1, h2⟩
    · exact absurd h h1
theorem RNew_bad (rm : Int) (h : rm < 0 ∨ 1024 < rm) (w : World) : Ret Try.prog 14 #[.int .i64 rm] w fun r w' => r = .tuple #[.pointer none, .int .i64 80] ∧ Keep w w' :=
  (RNew_c rm w).mono fun r w' q => by
    rcases q with ⟨_, h1, h2⟩ | ⟨h1, _⟩
    · exact ⟨h1, h2⟩
    · exact absurd h h1
theorem RNew_e (rm : Int) (h : ¬ (rm < 0 ∨ 1024 < rm)) (w : World) : Ret Try.prog 14 #[.int .i64 rm] w fun r w' => ∃ rb, r = .tuple #[ptrV rb, .int .i64 0] ∧ ReIn (fun _ => False) w' rb ⟨rm, [], 0, 0, 0⟩ ∧ w.heap.size ≤ rb ∧ rb < w'.heap.size ∧ Keep w w' :=
  (RNew_c rm w).mono fun r w' q => by
    rcases q with ⟨h1, _⟩ | ⟨_, h1⟩
    · exact absurd h1 h
    · exact h1
theorem SameKeys_e {lo1 hi1 lo2 hi2 : Nat} {A1 A2 : Option Addr} {n1 n2 c1 c2 : Nat} {xs : List PKEY} (w : World) (hs1 : Sl KPk lo1 hi1 w A1 n1 xs) (hs2 : Sl KPk lo2 hi2 w A2 n2 xs) : Ret Try.prog 12 #[.slice A1 n1 c1, .slice A2 n2 c2] w fun r w' => r = .bool true ∧ Keep w w' :=
  (SameKeys_c w hs1 hs2).mono fun r w' ⟨h1, h2⟩ => ⟨by rw [h1]; simp, h2⟩
theorem Room_e {T : Nat → Prop} {bc : Nat} {s : Ca} {rm : Int} (w : World) (hC : CaIn T w bc s) (h : s.room = rm) : Ret Try.prog 19 #[ptrV bc] w fun r w' => r = .int .i64 rm ∧ Keep w w' := h ▸ Room_c w hC
theorem Rm.re {r : Nat} {s : Ca} {ps : PGS} {N : Nat} (h : Rm r s ps N) (hn : (s.L.map (·.1)).Nodup) : Rm r s s.L N := { h with new := fun q hq => asc_mem hn hq }
theorem Rm.stp {r : Nat} {s : Ca} {ps : PGS} {N : Nat} (h : Rm r s ps N) (kd : Int) (k : PKEY) (p : List CD) : ∃ ps', Rm r (s.stp kd k p) ps' (N + 1) := by
  unfold Ca.stp
  split
  · exact ⟨_, h.get k⟩
  · split
    · exact ⟨_, h.put k p⟩
    · split
      · exact ⟨_, (h.drop k.1).up (Nat.le_succ _)⟩
      · exact ⟨_, h.up (Nat.le_succ _)⟩
-- f4 "pedigree/pedigreelaw08.CacheRuns" params [3, 38] results [4] -> [(ResultVar.tmp 4)] nfree 0 ntmps 83 na
set_option maxHeartbeats 4000000 in
set_option maxRecDepth 100000 in
theorem CacheRuns_bad (w : World) (room : Int) (A : Option Addr) (n c : Nat) (ops : List OD) (hc : n ≤ c) (hs0 : Sl KOp 0 w.heap.size w A n ops) (hrm : room < 0 ∨ 1024 < room) : Ret Try.prog 4 #[.int .i64 room, .slice A n c] w fun r w' => r = .bool true ∧ Keep w w' := by
  obtain ⟨hdr, hsh, hops⟩ := sl_ops hs0
  have hbd := hsh.bound
  refine X.enter Try.func4 rfl Try.ntmps4 rfl ?_
  refine X.seq ?_
  refine X.region ?_
  refine X.opw X.wN rfl (X.assign rfl) ?_
  refine X.opsEnd ?_
  refine X.seq ?_
  refine X.seq ?_
  refine X.region ?_
  refine X.opE X.wN rfl (X.callE (awake_c _) Try.call7 rfl rfl) ?_
  rintro _ w1 ⟨rfl, hk1⟩
  have hk1' := hk1.size
  refine X.opw X.wN rfl (X.not_ rfl) ?_
  refine X.opsEnd ?_
  refine X.condF rfl ?_
  refine X.skip ?_
  refine X.seq ?_
  refine X.region ?_
  refine X.opw X.wN rfl (X.move (v := .int .i64 _) rfl) ?_
  refine X.opE X.wN rfl (X.callE (New_bad room hrm _) Try.call8 rfl rfl) ?_
  rintro _ w2 ⟨rfl, hk2⟩
  have hk2' := hk2.size
  refine X.opw X.wN rfl (X.move rfl) ?_
  refine X.opw X.wN rfl (X.extr rfl rfl) ?_
  refine X.opw X.wN rfl (X.extr rfl rfl) ?_
  refine X.opw X.wN rfl (X.assign rfl) ?_
  refine X.opw X.wN rfl (X.assign (v := .int .i64 _) rfl) ?_
  refine X.opsEnd ?_
  refine X.seq ?_
  refine X.region ?_
  refine X.opw X.wN rfl (X.move (v := .int .i64 _) rfl) ?_
  refine X.opE X.wN rfl (X.callE (RNew_bad room hrm _) Try.call14 rfl rfl) ?_
  rintro _ w3 ⟨rfl, hk3⟩
  have hk3' := hk3.size
  refine X.opw X.wN rfl (X.move rfl) ?_
  refine X.opw X.wN rfl (X.extr rfl rfl) ?_
  refine X.opw X.wN rfl (X.extr rfl rfl) ?_
  refine X.opw X.wN rfl (X.assign rfl) ?_
  refine X.opw X.wN rfl (X.assign (v := .int .i64 _) rfl) ?_
  refine X.opsEnd ?_
  refine X.seq ?_
  refine X.seq ?_
  refine X.region ?_
  refine X.opw X.wN rfl (X.move (v := .int .i64 _) rfl) ?_
  refine X.opw X.wN rfl (X.move (v := .int .i64 _) rfl) ?_
  refine X.opw X.wN rfl (X.neI rfl rfl) ?_
  refine X.opw X.wN rfl (X.move (v := .bool false) rfl) ?_
  refine X.opw (X.wG rfl rfl rfl) rfl (X.move rfl) ?_
  refine X.opw (X.wG rfl rfl rfl) rfl (X.eqPtrN (A := none) Try.underlying24 rfl rfl) ?_
  refine X.opw (X.wG rfl rfl rfl) rfl (X.move rfl) ?_
  refine X.opw (X.wG rfl rfl rfl) rfl (X.eqPtrN (A := none) Try.underlying39 rfl rfl) ?_
  refine X.opw (X.wG rfl rfl rfl) rfl (X.neB Try.underlying4 rfl rfl) ?_
  refine X.opw X.wN rfl (X.pickF (v := .bool false) rfl rfl) ?_
  refine X.opsEnd ?_
  refine X.condF rfl ?_
  refine X.skip ?_
  refine X.seq ?_
  refine X.seq ?_
  refine X.region ?_
  refine X.opw X.wN rfl (X.assign rfl) ?_
  refine X.opsEnd ?_
  refine X.block ?_
  -- LOOP live: 0=room, 1=ops, 5=c, 7=r, 9=i*
  refine X.loopL (σ := Unit) (fun s => [(0, .int .i64 room), (1, .slice A n c), (5, .pointer none), (7, .pointer none), (9, .int .i64 0)]) (fun s w' => Keep w w') (fun s => 0) () ⟨rfl, rfl, rfl, rfl, rfl, trivial⟩ ((hk1.trans hk2).trans hk3) ?_
  rintro s b0 wl hk hback
  have hk' := hk.size
  refine X.seq ?_
  refine X.seq ?_
  refine X.region ?_
  refine X.opw X.wN rfl (X.move (v := .int .i64 _) rfl) ?_
  refine X.opw X.wN rfl (X.move (v := .slice _ _ _) rfl) ?_
  refine X.opw X.wN rfl (X.lenSl Try.underlying38 rfl) ?_
  refine X.opP X.wN rfl rfl (X.lss rfl rfl) (fun h35 => ?_) (fun h35 => ?_)
  · refine X.opw X.wN rfl (X.move (v := .bool true) rfl) ?_
    refine X.opw (X.wG rfl rfl rfl) rfl (X.move (v := .int .i64 _) rfl) ?_
    refine X.opP (X.wG rfl rfl rfl) rfl rfl (X.lss rfl rfl) (fun h38 => ?_) (fun h38 => ?_)
    · refine X.opw X.wN rfl (X.pickT (v := .bool true) rfl rfl) ?_
      refine X.opw X.wN rfl (X.move (v := .bool true) rfl) ?_
      refine X.opw (X.wG rfl rfl rfl) rfl (X.move rfl) ?_
      refine X.opw (X.wG rfl rfl rfl) rfl (X.nePtrN (A := none) Try.underlying39 rfl rfl) ?_
      refine X.opw X.wN rfl (X.pickT (v := .bool false) rfl rfl) ?_
      refine X.opsEnd ?_
      refine X.condF rfl ?_
      refine X.exit rfl ?_
      refine X.seq ?_
      refine X.region ?_
      refine X.opw X.wN rfl (X.assign rfl) ?_
      refine X.opsEnd ?_
      refine X.ret1 (v := (.bool _)) Try.func4 Try.results4 rfl ?_
      exact ⟨rfl, hk⟩
    · refine X.opw X.wN rfl (X.pickT (v := .bool false) rfl rfl) ?_
      refine X.opw X.wN rfl (X.move (v := .bool false) rfl) ?_
      refine X.opS rfl rfl rfl rfl rfl ?_
      refine X.opS rfl rfl rfl rfl rfl ?_
      refine X.opw X.wN rfl (X.pickF (v := .bool false) rfl rfl) ?_
      refine X.opsEnd ?_
      refine X.condF rfl ?_
      refine X.exit rfl ?_
      refine X.seq ?_
      refine X.region ?_
      refine X.opw X.wN rfl (X.assign rfl) ?_
      refine X.opsEnd ?_
      refine X.ret1 (v := (.bool _)) Try.func4 Try.results4 rfl ?_
      exact ⟨rfl, hk⟩
  · refine X.opw X.wN rfl (X.move (v := .bool false) rfl) ?_
    refine X.opS rfl rfl rfl rfl rfl ?_
    refine X.opS rfl rfl rfl rfl rfl ?_
    refine X.opw X.wN rfl (X.pickF (v := .bool false) rfl rfl) ?_
    refine X.opw X.wN rfl (X.move (v := .bool false) rfl) ?_
    refine X.opS rfl rfl rfl rfl rfl ?_
    refine X.opS rfl rfl rfl rfl rfl ?_
    refine X.opw X.wN rfl (X.pickF (v := .bool false) rfl rfl) ?_
    refine X.opsEnd ?_
    refine X.condF rfl ?_
    refine X.exit rfl ?_
    refine X.seq ?_
    refine X.region ?_
    refine X.opw X.wN rfl (X.assign rfl) ?_
    refine X.opsEnd ?_
    refine X.ret1 (v := (.bool _)) Try.func4 Try.results4 rfl ?_
    exact ⟨rfl, hk⟩
-- f4 "pedigree/pedigreelaw08.CacheRuns" params [3, 38] results [4] -> [(ResultVar.tmp 4)] nfree 0 ntmps 83 na
set_option maxHeartbeats 4000000 in
set_option maxRecDepth 100000 in
theorem CacheRuns_good (w : World) (room : Int) (A : Option Addr) (n c : Nat) (ops : List OD) (hc : n ≤ c) (hs0 : Sl KOp 0 w.heap.size w A n ops) (hrm : ¬ (room < 0 ∨ 1024 < room)) (hz : ∀ o, o ∈ ops → ∀ q, q ∈ o.2.2 → q.1.length * 32 ≤ 140737488355328) : Ret Try.prog 4 #[.int .i64 room, .slice A n c] w fun r w' => r = .bool true ∧ Keep w w' := by
  obtain ⟨hdr, hsh, hops⟩ := sl_ops hs0
  have hbd := hsh.bound
  obtain ⟨r, hr⟩ : ∃ r : Nat, room = (r : Int) := ⟨room.toNat, by omega⟩
  refine X.enter Try.func4 rfl Try.ntmps4 rfl ?_
  refine X.seq ?_
  refine X.region ?_
  refine X.opw X.wN rfl (X.assign rfl) ?_
  refine X.opsEnd ?_
  refine X.seq ?_
  refine X.seq ?_
  refine X.region ?_
  refine X.opE X.wN rfl (X.callE (awake_c _) Try.call7 rfl rfl) ?_
  rintro _ w1 ⟨rfl, hk1⟩
  have hk1' := hk1.size
  refine X.opw X.wN rfl (X.not_ rfl) ?_
  refine X.opsEnd ?_
  refine X.condF rfl ?_
  refine X.skip ?_
  refine X.seq ?_
  refine X.region ?_
  refine X.opw X.wN rfl (X.move (v := .int .i64 _) rfl) ?_
  refine X.opE X.wN rfl (X.callE (New_e room hrm _) Try.call8 rfl rfl) ?_
  rintro _ w2 ⟨bc, rfl, hC0, hk2⟩
  have hk2' := hk2.size
  refine X.opw X.wN rfl (X.move rfl) ?_
  refine X.opw X.wN rfl (X.extr rfl rfl) ?_
  refine X.opw X.wN rfl (X.extr rfl rfl) ?_
  refine X.opw X.wN rfl (X.assign rfl) ?_
  refine X.opw X.wN rfl (X.assign (v := .int .i64 _) rfl) ?_
  refine X.opsEnd ?_
  refine X.seq ?_
  refine X.region ?_
  refine X.opw X.wN rfl (X.move (v := .int .i64 _) rfl) ?_
  refine X.opE X.wN rfl (X.callE (RNew_e room hrm _) Try.call14 rfl rfl) ?_
  rintro _ w3 ⟨rb, rfl, hR0, hrb0, hrb1, hk3⟩
  have hk3' := hk3.size
  refine X.opw X.wN rfl (X.move rfl) ?_
  refine X.opw X.wN rfl (X.extr rfl rfl) ?_
  refine X.opw X.wN rfl (X.extr rfl rfl) ?_
  refine X.opw X.wN rfl (X.assign rfl) ?_
  refine X.opw X.wN rfl (X.assign (v := .int .i64 _) rfl) ?_
  refine X.opsEnd ?_
  refine X.seq ?_
  refine X.seq ?_
  refine X.region ?_
  refine X.opw X.wN rfl (X.move (v := .int .i64 _) rfl) ?_
  refine X.opw X.wN rfl (X.move (v := .int .i64 _) rfl) ?_
  refine X.opw X.wN rfl (X.neI rfl rfl) ?_
  refine X.opw X.wN rfl (X.move (v := .bool false) rfl) ?_
  refine X.opw (X.wG rfl rfl rfl) rfl (X.move rfl) ?_
  refine X.opw (X.wG rfl rfl rfl) rfl (X.eqPtrN (A := some _) Try.underlying24 rfl rfl) ?_
  refine X.opw (X.wG rfl rfl rfl) rfl (X.move rfl) ?_
  refine X.opw (X.wG rfl rfl rfl) rfl (X.eqPtrN (A := some _) Try.underlying39 rfl rfl) ?_
  refine X.opw (X.wG rfl rfl rfl) rfl (X.neB Try.underlying4 rfl rfl) ?_
  refine X.opw X.wN rfl (X.pickF (v := .bool false) rfl rfl) ?_
  refine X.opsEnd ?_
  refine X.condF rfl ?_
  refine X.skip ?_
  refine X.seq ?_
  refine X.seq ?_
  refine X.region ?_
  refine X.opw X.wN rfl (X.assign rfl) ?_
  refine X.opsEnd ?_
  refine X.block ?_
  -- LOOP live: 0=room, 1=ops, 5=c, 7=r, 9=i*
  refine X.loopL (σ := Nat) (fun s => [(0, .int .i64 room), (1, .slice A n c), (5, ptrV bc), (7, ptrV rb), (9, .int .i64 (s : Int))]) (fun s w' => s ≤ n ∧ s ≤ 60 ∧ ∃ cs TT TB, CaIn TT w' bc cs ∧ ReIn TB w' rb cs ∧ Rm r cs cs.L s ∧ (∀ k, TT k → ¬ TB k) ∧ ¬ TT rb ∧ (∀ k, TT k → w.heap.size ≤ k) ∧ (∀ k, TB k → w.heap.size ≤ k) ∧ Keep w w') (fun s => n - s) 0 ⟨rfl, rfl, rfl, rfl, rfl, trivial⟩ ⟨Nat.zero_le _, Nat.zero_le _, _, _, _, (hC0.keep hk3), hR0, ⟨hr, Nat.zero_le _, fun q hq => by simp at hq, by simp, by simp, by simp⟩, fun k h h2 => h2, fun h => by omega, fun k h => by omega, fun k h => h.elim, ((hk1.trans hk2).trans hk3)⟩ ?_
  rintro i b0 wl ⟨hi1, hi2, cs, TT, TB, hC, hR, hRm, hd, hrT, hTw, hBw, hk⟩ hback
  have hk' := hk.size
  have hTl := hC.lt
  obtain ⟨hBl, hrl, hrB⟩ := hR.lt
  have hRl := hRm.len
  have hRr := hRm.room
  have hRh := hRm.h
  have hRm' := hRm.m
  have hRg := hRm.g
  refine X.seq ?_
  refine X.seq ?_
  refine X.region ?_
  refine X.opw X.wN rfl (X.move (v := .int .i64 _) rfl) ?_
  refine X.opw X.wN rfl (X.move (v := .slice _ _ _) rfl) ?_
  refine X.opw X.wN rfl (X.lenSl Try.underlying38 rfl) ?_
  refine X.opP X.wN rfl rfl (X.lss rfl rfl) (fun h35 => ?_) (fun h35 => ?_)
  · refine X.opw X.wN rfl (X.move (v := .bool true) rfl) ?_
    refine X.opw (X.wG rfl rfl rfl) rfl (X.move (v := .int .i64 _) rfl) ?_
    refine X.opP (X.wG rfl rfl rfl) rfl rfl (X.lss rfl rfl) (fun h38 => ?_) (fun h38 => ?_)
    · obtain ⟨x, hx⟩ := getL i hsh.len (by omega)
      obtain ⟨o, ho, hx1, hx2, ho1, ho2, hxc, hpo⟩ := hops i x hx
      have hoz := hz o (List.mem_of_getElem? ho)
      have hxb := hpo.len
      refine X.opw X.wN rfl (X.pickT (v := .bool true) rfl rfl) ?_
      refine X.opw X.wN rfl (X.move (v := .bool true) rfl) ?_
      refine X.opw (X.wG rfl rfl rfl) rfl (X.move rfl) ?_
      refine X.opw (X.wG rfl rfl rfl) rfl (X.nePtrN (A := some _) Try.underlying39 rfl rfl) ?_
      refine X.opw X.wN rfl (X.pickT (v := .bool true) rfl rfl) ?_
      refine X.opsEnd ?_
      refine X.condT rfl ?_
      refine X.skip ?_
      refine X.seq ?_
      refine X.block ?_
      refine X.seq ?_
      refine X.seq ?_
      refine X.region ?_
      refine X.opw X.wN rfl (X.move (v := .slice _ _ _) rfl) ?_
      refine X.opw X.wN rfl (X.move (v := .int .i64 _) rfl) ?_
      refine X.opw X.wN rfl (X.idxS (hsh.keep hk) Try.underlying38 Try.sizeOf44 rfl rfl ⟨by omega, by omega⟩) ?_
      refine X.opw X.wN rfl (X.loadSN Try.isAgg44 Try.sizeOf44 (hsh.keep hk) hx rfl (fun _ h => h.1) rfl) ?_
      refine X.opE X.wN rfl (X.callE (light_c x _ hpo.bound) Try.call15 rfl rfl) ?_
      rintro _ w4 ⟨rfl, hk4⟩
      have hk4' := hk4.size
      refine X.opw X.wN rfl (X.not_ rfl) ?_
      refine X.opsEnd ?_
      refine X.condB rfl (fun hcl => ?_) (fun hcl => ?_)
      · refine X.exit rfl ?_
        refine X.region ?_
        refine X.opw X.wN rfl (X.move (v := .int .i64 _) rfl) ?_
        refine X.opw X.wN rfl (X.add rfl rfl (X.w_i64 (by omega))) ?_
        refine X.opw X.wN rfl (X.assign (v := .int .i64 _) rfl) ?_
        refine X.opsEnd ?_
        refine hback (i + 1) _ _ ⟨rfl, rfl, rfl, rfl, rfl, trivial⟩ ⟨by omega, by omega, cs, TT, TB, hC.keep hk4, hR.keep hk4, hRm.up (Nat.le_succ _), hd, hrT, hTw, hBw, (hk.trans hk4)⟩ (by omega)
      · have hlt : x.2.1.1.size ≤ 100 ∧ x.2.2.2.1 ≤ 20 := by simpa using hcl
        have hok : okPg o.2.2 := ⟨by omega, hoz⟩
        refine X.skip ?_
        refine X.seq ?_
        refine X.regionD (fun q => TT q ∨ q = rb) 31 (by kernel_rfl) (by kernel_rfl) (fun w5 hk5 hz5 => ?_)
        refine X.dTake 0 rfl (by kernel_rfl) (by kernel_rfl) (by kernel_rfl) (X.dwN rfl) (fun w' hk' => X.move rfl) ?_
        refine X.dTake 1 rfl (by kernel_rfl) (by kernel_rfl) (by kernel_rfl) (X.dwN rfl) (fun w' hk' => X.move rfl) ?_
        refine X.dTake 2 rfl (by kernel_rfl) (by kernel_rfl) (by kernel_rfl) (X.dwN rfl) (fun w' hk' => X.move (v := .slice _ _ _) rfl) ?_
        refine X.dTake 3 rfl (by kernel_rfl) (by kernel_rfl) (by kernel_rfl) (X.dwN rfl) (fun w' hk' => X.move (v := .int .i64 _) rfl) ?_
        refine X.dTake 4 rfl (by kernel_rfl) (by kernel_rfl) (by kernel_rfl) (X.dwN rfl) (fun w' hk' => X.idxS (hsh.keep (((hk.trans hk4).trans hk5).step hk' (by first | (intros; (try simp only [] at *); omega) | exact fun k h => h.elim (fun h => hTw k h) (fun h => by (have h : k = rb := h; omega))))) Try.underlying38 Try.sizeOf44 rfl rfl ⟨by omega, by omega⟩) ?_
        refine X.dTake 5 rfl (by kernel_rfl) (by kernel_rfl) (by kernel_rfl) (X.dwN rfl) (fun w' hk' => X.loadSN Try.isAgg44 Try.sizeOf44 (hsh.keep (((hk.trans hk4).trans hk5).step hk' (by first | (intros; (try simp only [] at *); omega) | exact fun k h => h.elim (fun h => hTw k h) (fun h => by (have h : k = rb := h; omega))))) hx rfl (fun _ h => h.1) rfl) ?_
        refine X.dE (i := 6) (by kernel_rfl) rfl (X.dwN rfl) (X.callE (step_c x o.2.2 _ (hC.keep (hk4.trans hk5)) (hR.keep (hk4.trans hk5)) hd hrT (hpo.keep ((hk.trans hk4).trans hk5)) (by omega) (fun k _ h1 h2 => by have := hTw k h2; omega) (fun k _ h1 h2 => by omega) hok (by omega) (by omega) (by omega) (by omega) (by omega)) Try.call16 rfl rfl) (by rintro _ w6 ⟨rfl, TT2, TB2, hC2, hR2, hT2w, hB2w, hd2, hx6⟩ _; exact hx6) ?_
        rintro _ w6 ⟨rfl, TT2, TB2, hC2, hR2, hT2w, hB2w, hd2, hx6⟩
        have hx6' := hx6.size
        refine X.dTake 7 rfl (by kernel_rfl) (by kernel_rfl) (by kernel_rfl) (X.dwN rfl) (fun w' hk' => X.not_ rfl) ?_
        refine X.dTake 8 rfl (by kernel_rfl) (by kernel_rfl) (by kernel_rfl) (X.dwN rfl) (fun w' hk' => X.move (v := .bool false) rfl) ?_
        refine X.dTake 9 rfl (by kernel_rfl) (by kernel_rfl) (by kernel_rfl) (X.dwG rfl rfl rfl) (fun w' hk' => X.move rfl) ?_
        refine X.dTake 11 rfl (by kernel_rfl) (by kernel_rfl) (by kernel_rfl) (X.dwG rfl rfl rfl) (fun w' hk' => X.move rfl) ?_
        have hC2l := hC2.lt
        obtain ⟨ps2, hRm2⟩ := hRm.stp x.1 x.2.1 o.2.2
        have hRm3 := hRm2.re hC2.nd
        have hRm2l := hRm2.len
        obtain ⟨A5, n5, c5, hs5, lo5, hi5, hB5, hsl5, hlo5, hhi5, hnc5, hps5, hrT5, hTw5⟩ := id hR2
        have hrb5 := hB5.lt
        refine X.dE (i := 10) (by kernel_rfl) rfl (X.dwG rfl rfl rfl) (X.callE (Keys_c _ (hC2.keep (Keep.refl _)) (by omega)) Try.call13 rfl rfl) (by rintro _ w7 ⟨kA, kc, rfl, hkc, hkM, hk7⟩ _; exact hk7.mono (fun _ _ h => h.elim)) ?_
        rintro _ w7 ⟨kA, kc, rfl, hkc, hkM, hk7⟩
        have hk7' := hk7.size
        refine X.dE (i := 12) (by kernel_rfl) rfl (X.dwG rfl rfl rfl) (X.callE (RKeys_c _ (hB5.keep hk7) (hsl5.keep hk7) (hps5.keep hk7) (by omega)) Try.call17 rfl rfl) (by rintro _ w8 ⟨kA2, kc2, rfl, hkS, hk8⟩ _; exact hk8.mono (fun _ _ h => h.elim)) ?_
        rintro _ w8 ⟨kA2, kc2, rfl, hkS, hk8⟩
        have hk8' := hk8.size
        refine X.dE (i := 13) (by kernel_rfl) rfl (X.dwG rfl rfl rfl) (X.callE (SameKeys_e _ ((mine_0 KPk_flat hkM 0 (fun _ _ => Nat.zero_le _)).keep hk8) hkS) Try.call12 rfl rfl) (by rintro _ w9 ⟨rfl, hk9⟩ _; exact hk9.mono (fun _ _ h => h.elim)) ?_
        rintro _ w9 ⟨rfl, hk9⟩
        have hk9' := hk9.size
        refine X.dTake 14 rfl (by kernel_rfl) (by kernel_rfl) (by kernel_rfl) (X.dwG rfl rfl rfl) (fun w' hk' => X.not_ rfl) ?_
        refine X.dTake 15 rfl (by kernel_rfl) (by kernel_rfl) (by kernel_rfl) (X.dwN rfl) (fun w' hk' => X.pickF (v := .bool false) rfl rfl) ?_
        refine X.dTake 16 rfl (by kernel_rfl) (by kernel_rfl) (by kernel_rfl) (X.dwN rfl) (fun w' hk' => X.move (v := .bool false) rfl) ?_
        refine X.dTake 17 rfl (by kernel_rfl) (by kernel_rfl) (by kernel_rfl) (X.dwG rfl rfl rfl) (fun w' hk' => X.move rfl) ?_
        refine X.dTake 19 rfl (by kernel_rfl) (by kernel_rfl) (by kernel_rfl) (X.dwG rfl rfl rfl) (fun w' hk' => X.move rfl) ?_
        refine X.dTake 20 rfl (by kernel_rfl) (by kernel_rfl) (by kernel_rfl) (X.dwG rfl rfl rfl) (fun w' hk' => X.nilCk rfl) ?_
        refine X.dTake 21 rfl (by kernel_rfl) (by kernel_rfl) (by kernel_rfl) (X.dwG rfl rfl rfl) (fun w' hk' => X.fldB (j := 2) Try.underlying51 rfl rfl Try.sizeOf47 rfl) ?_
        refine X.dTwo (i := 18) (j := 22) (by kernel_rfl) ?_ ?_
        · refine X.d1E (i := 18) rfl (X.dwG rfl rfl rfl) (X.callE (Stats_c _ (hC2.keep ((hk7.trans hk8).trans hk9))) Try.call18 rfl rfl) (by rintro _ w10 ⟨rfl, hk10⟩ _; exact hk10.mono (fun _ _ h => h.elim)) ?_
          rintro _ w10 ⟨rfl, hk10⟩
          have hk10' := hk10.size
          refine X.dStep (i := 22) (by kernel_rfl) rfl (X.dwG rfl rfl rfl) (X.loadNB Try.isAgg47 Try.sizeOf47 (hB5.keep (((hk7.trans hk8).trans hk9).trans hk10)) rfl rfl rfl) (fun _ => Ext.refl _ _) ?_
          refine X.dTake 23 rfl (by kernel_rfl) (by kernel_rfl) (by kernel_rfl) (X.dwG rfl rfl rfl) (fun w' hk' => X.neA (b := true) eqSt_guard rfl rfl (eqStT _ _ _ _)) ?_
          refine X.dTake 24 rfl (by kernel_rfl) (by kernel_rfl) (by kernel_rfl) (X.dwN rfl) (fun w' hk' => X.pickF (v := .bool false) rfl rfl) ?_
          refine X.dTake 25 rfl (by kernel_rfl) (by kernel_rfl) (by kernel_rfl) (X.dwN rfl) (fun w' hk' => X.move (v := .bool false) rfl) ?_
          refine X.dTake 26 rfl (by kernel_rfl) (by kernel_rfl) (by kernel_rfl) (X.dwG rfl rfl rfl) (fun w' hk' => X.move rfl) ?_
          refine X.dTake 28 rfl (by kernel_rfl) (by kernel_rfl) (by kernel_rfl) (X.dwG rfl rfl rfl) (fun w' hk' => X.move (v := .int .i64 _) rfl) ?_
          refine X.dE (i := 27) (by kernel_rfl) rfl (X.dwG rfl rfl rfl) (X.callE (Room_e (rm := room) _ (hC2.keep (((hk7.trans hk8).trans hk9).trans hk10)) (by rw [hRm2.room, hr])) Try.call19 rfl rfl) (by rintro _ w11 ⟨rfl, hk11⟩ _; exact hk11.mono (fun _ _ h => h.elim)) ?_
          rintro _ w11 ⟨rfl, hk11⟩
          have hk11' := hk11.size
          refine X.dTake 29 rfl (by kernel_rfl) (by kernel_rfl) (by kernel_rfl) (X.dwG rfl rfl rfl) (fun w' hk' => neI0 rfl rfl) ?_
          refine X.dTake 30 rfl (by kernel_rfl) (by kernel_rfl) (by kernel_rfl) (X.dwN rfl) (fun w' hk' => X.pickF (v := .bool false) rfl rfl) ?_
          refine X.dEnd (by kernel_rfl) ?_
          refine X.condF rfl ?_
          refine X.skip ?_
          refine X.inBlock ?_
          refine X.region ?_
          refine X.opw X.wN rfl (X.move (v := .int .i64 _) rfl) ?_
          refine X.opw X.wN rfl (X.add rfl rfl (X.w_i64 (by omega))) ?_
          refine X.opw X.wN rfl (X.assign (v := .int .i64 _) rfl) ?_
          refine X.opsEnd ?_
          refine hback (i + 1) _ _ ⟨rfl, rfl, rfl, rfl, rfl, trivial⟩ ⟨by omega, by omega, _, TT2, TB2, hC2.keep ((((hk7.trans hk8).trans hk9).trans hk10).trans hk11), hR2.keep ((((hk7.trans hk8).trans hk9).trans hk10).trans hk11), hRm3, hd2, fun h => (hT2w rb h).elim hrT (fun h => by omega), fun k h => (hT2w k h).elim (hTw k) (fun h => by omega), fun k h => (hB2w k h).elim (hBw k) (fun h => by omega), ((((((((hk.trans hk4).trans hk5).step hx6 (by first | (intros; (try simp only [] at *); omega) | exact fun k h => h.elim (fun h => hTw k h) (fun h => by (have h : k = rb := h; omega)))).trans hk7).trans hk8).trans hk9).trans hk10).trans hk11)⟩ (by omega)
        · refine X.d1Step (i := 22) rfl (X.dwG rfl rfl rfl) (X.loadNB Try.isAgg47 Try.sizeOf47 (hB5.keep ((hk7.trans hk8).trans hk9)) rfl rfl rfl) (fun _ => Ext.refl _ _) ?_
          refine X.dE (i := 18) (by kernel_rfl) rfl (X.dwG rfl rfl rfl) (X.callE (Stats_c _ (hC2.keep ((hk7.trans hk8).trans hk9))) Try.call18 rfl rfl) (by rintro _ w12 ⟨rfl, hk12⟩ _; exact hk12.mono (fun _ _ h => h.elim)) ?_
          rintro _ w12 ⟨rfl, hk12⟩
          have hk12' := hk12.size
          refine X.dTake 23 rfl (by kernel_rfl) (by kernel_rfl) (by kernel_rfl) (X.dwG rfl rfl rfl) (fun w' hk' => X.neA (b := true) eqSt_guard rfl rfl (eqStT _ _ _ _)) ?_
          refine X.dTake 24 rfl (by kernel_rfl) (by kernel_rfl) (by kernel_rfl) (X.dwN rfl) (fun w' hk' => X.pickF (v := .bool false) rfl rfl) ?_
          refine X.dTake 25 rfl (by kernel_rfl) (by kernel_rfl) (by kernel_rfl) (X.dwN rfl) (fun w' hk' => X.move (v := .bool false) rfl) ?_
          refine X.dTake 26 rfl (by kernel_rfl) (by kernel_rfl) (by kernel_rfl) (X.dwG rfl rfl rfl) (fun w' hk' => X.move rfl) ?_
          refine X.dTake 28 rfl (by kernel_rfl) (by kernel_rfl) (by kernel_rfl) (X.dwG rfl rfl rfl) (fun w' hk' => X.move (v := .int .i64 _) rfl) ?_
          refine X.dE (i := 27) (by kernel_rfl) rfl (X.dwG rfl rfl rfl) (X.callE (Room_e (rm := room) _ (hC2.keep (((hk7.trans hk8).trans hk9).trans hk12)) (by rw [hRm2.room, hr])) Try.call19 rfl rfl) (by rintro _ w13 ⟨rfl, hk13⟩ _; exact hk13.mono (fun _ _ h => h.elim)) ?_
          rintro _ w13 ⟨rfl, hk13⟩
          have hk13' := hk13.size
          refine X.dTake 29 rfl (by kernel_rfl) (by kernel_rfl) (by kernel_rfl) (X.dwG rfl rfl rfl) (fun w' hk' => neI0 rfl rfl) ?_
          refine X.dTake 30 rfl (by kernel_rfl) (by kernel_rfl) (by kernel_rfl) (X.dwN rfl) (fun w' hk' => X.pickF (v := .bool false) rfl rfl) ?_
          refine X.dEnd (by kernel_rfl) ?_
          refine X.condF rfl ?_
          refine X.skip ?_
          refine X.inBlock ?_
          refine X.region ?_
          refine X.opw X.wN rfl (X.move (v := .int .i64 _) rfl) ?_
          refine X.opw X.wN rfl (X.add rfl rfl (X.w_i64 (by omega))) ?_
          refine X.opw X.wN rfl (X.assign (v := .int .i64 _) rfl) ?_
          refine X.opsEnd ?_
          refine hback (i + 1) _ _ ⟨rfl, rfl, rfl, rfl, rfl, trivial⟩ ⟨by omega, by omega, _, TT2, TB2, hC2.keep ((((hk7.trans hk8).trans hk9).trans hk12).trans hk13), hR2.keep ((((hk7.trans hk8).trans hk9).trans hk12).trans hk13), hRm3, hd2, fun h => (hT2w rb h).elim hrT (fun h => by omega), fun k h => (hT2w k h).elim (hTw k) (fun h => by omega), fun k h => (hB2w k h).elim (hBw k) (fun h => by omega), ((((((((hk.trans hk4).trans hk5).step hx6 (by first | (intros; (try simp only [] at *); omega) | exact fun k h => h.elim (fun h => hTw k h) (fun h => by (have h : k = rb := h; omega)))).trans hk7).trans hk8).trans hk9).trans hk12).trans hk13)⟩ (by omega)
    · refine X.opw X.wN rfl (X.pickT (v := .bool false) rfl rfl) ?_
      refine X.opw X.wN rfl (X.move (v := .bool false) rfl) ?_
      refine X.opS rfl rfl rfl rfl rfl ?_
      refine X.opS rfl rfl rfl rfl rfl ?_
      refine X.opw X.wN rfl (X.pickF (v := .bool false) rfl rfl) ?_
      refine X.opsEnd ?_
      refine X.condF rfl ?_
      refine X.exit rfl ?_
      refine X.seq ?_
      refine X.region ?_
      refine X.opw X.wN rfl (X.assign rfl) ?_
      refine X.opsEnd ?_
      refine X.ret1 (v := (.bool _)) Try.func4 Try.results4 rfl ?_
      exact ⟨rfl, hk⟩
  · refine X.opw X.wN rfl (X.move (v := .bool false) rfl) ?_
    refine X.opS rfl rfl rfl rfl rfl ?_
    refine X.opS rfl rfl rfl rfl rfl ?_
    refine X.opw X.wN rfl (X.pickF (v := .bool false) rfl rfl) ?_
    refine X.opw X.wN rfl (X.move (v := .bool false) rfl) ?_
    refine X.opS rfl rfl rfl rfl rfl ?_
    refine X.opS rfl rfl rfl rfl rfl ?_
    refine X.opw X.wN rfl (X.pickF (v := .bool false) rfl rfl) ?_
    refine X.opsEnd ?_
    refine X.condF rfl ?_
    refine X.exit rfl ?_
    refine X.seq ?_
    refine X.region ?_
    refine X.opw X.wN rfl (X.assign rfl) ?_
    refine X.opsEnd ?_
    refine X.ret1 (v := (.bool _)) Try.func4 Try.results4 rfl ?_
    exact ⟨rfl, hk⟩
theorem CacheRuns_c (w : World) (room : Int) (hroom : -9223372036854775808 ≤ room ∧ room ≤ 9223372036854775807) (A : Option Addr) (n c : Nat) (ops : List OD) (hc : n ≤ c) (hs0 : Sl KOp 0 w.heap.size w A n ops) (hz : ∀ o, o ∈ ops → ∀ q, q ∈ o.2.2 → q.1.length * 32 ≤ 140737488355328) : Ret Try.prog 4 #[.int .i64 room, .slice A n c] w fun r w' => r = .bool true ∧ Keep w w' := by
  by_cases h : room < 0 ∨ 1024 < room
  · exact CacheRuns_bad w room A n c ops hc hs0 h
  · exact CacheRuns_good w room A n c ops hc hs0 h hz
end Go.Proofs.Ytjjhddjllpihaaa
