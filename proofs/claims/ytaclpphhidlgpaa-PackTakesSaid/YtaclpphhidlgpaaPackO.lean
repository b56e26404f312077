/- The reader of package pack: values, tuples, symbols of keys, keys. -/
import Derived.Test.YtaclpphhidlgpaaPackN
namespace Go.Proofs.Ytaclpphhidlgpaa
open Go Go.Proofs.Ytaclpphhidlgpaa.X
set_option linter.unusedVariables false
set_option linter.unusedSimpArgs false

/-- A value that is read, a tuple, a counted tuple. -/
def pVal : List UInt8 → Option (VAL × List UInt8)
  | [] => none
  | c :: xs => if c.toNat = 1 then (pInt xs).map fun b => ((1, b.1, ⟨#[]⟩), b.2) else if c.toNat = 2 then (pText 256 xs).map fun b => ((2, 0, ⟨b.1.toArray⟩), b.2) else none
def pVals : Nat → List UInt8 → Option (List VAL × List UInt8)
  | 0, xs => some ([], xs)
  | n + 1, xs => match pVal xs with
    | none => none
    | some (v, ys) => (pVals n ys).map fun b => (v :: b.1, b.2)
def pTup : List UInt8 → Option (List VAL × List UInt8)
  | [] => none
  | c :: xs => if 8 < c.toNat then none else pVals c.toNat xs
def pCnt (xs : List UInt8) : Option ((List VAL × Int) × List UInt8) :=
  match pTup xs with
  | none => none
  | some (l, ys) => (pInt ys).map fun b => ((l, b.1), b.2)
theorem pText_len {most : Int} {xs : List UInt8} {b : List UInt8 × List UInt8} (h : pText most xs = some b) : b.1.length ≤ 1048576 := by
  unfold pText at h
  split at h
  · cases h
  · split at h
    · cases h
    · cases h; simp only [List.length_take]; omega
-- f75 "(*pedigree/pack.reader).value" params [81] results [75] -> [(ResultVar.cell 2 75)] nfree 0 ntmps 20 na
set_option maxHeartbeats 4000000 in
set_option maxRecDepth 100000 in
theorem value_c (hi rb T : Nat) (xs : List UInt8) (w : World) (hr : Rd w hi rb T xs) : PP 75 #[.pointer (some ⟨rb, 0, none⟩)] w hi rb T (pVal xs) (fun a v _ => v = .agg (encV a).toArray ∧ okV a) := by
  have hrl := hr.lt
  have hhr := hr.T
  refine X.enter Try.func75 rfl Try.ntmps75 rfl ?_
  refine X.seq ?_
  refine X.region ?_
  refine X.opE X.wN rfl (X.allocE Try.zeroValue75 rfl) ?_
  rintro _ w1 ⟨rfl, hB1, hk1, hz1⟩
  refine X.opsEnd ?_
  refine X.seq ?_
  refine X.seq ?_
  refine X.region ?_
  refine X.opw X.wN rfl (X.move rfl) ?_
  refine X.opPR (some1_c hi rb T _ _ (hr.keep hk1)) X.wN rfl Try.call69 rfl (fun x2 hb2 => ?_) (fun hb2 => ?_)
  · rintro _ w2 ⟨⟨A2, c2, rfl, hcc2, hs2⟩, hR2, hx2⟩
    have hx2' := hx2.size
    obtain ⟨ys2, rfl⟩ := head_some hb2
    simp only [List.tail_cons] at hR2
    have hu2 := x2.toNat_lt
    refine X.opw X.wN rfl (X.idxS hs2 Try.underlying25 Try.sizeOf5 rfl rfl ⟨by omega, by omega⟩) ?_
    refine X.opw X.wN rfl (X.loadS Try.isAgg5 hs2 (j := 0) rfl rfl (fun _ h => by rw [h.1]; rfl)) ?_
    refine X.opsEnd ?_
    refine X.block ?_
    refine X.seq ?_
    refine X.region ?_
    refine X.opP X.wN rfl rfl (X.eqI rfl rfl) (fun h8 => ?_) (fun h8 => ?_)
    · refine X.opw X.wN rfl (X.assign (v := .bool true) rfl) ?_
      refine X.opsEnd ?_
      refine X.condT rfl ?_
      refine X.seq ?_
      refine X.region ?_
      refine X.opw X.wN rfl (X.move rfl) ?_
      refine X.opPR (whole_c hi rb T _ _ hR2) X.wN rfl Try.call54 rfl (fun b3 hb3 => ?_) (fun hb3 => ?_)
      · rintro _ w3 ⟨⟨rfl, hn3⟩, hR3, hx3⟩
        have hx3' := hx3.size
        obtain ⟨a3, ys3⟩ := b3
        simp only at hR3 hn3
        refine X.opw X.wN rfl (X.buildB (vs := [(0, .int .i64 1), (1, .int .i64 a3)]) (cs := (encV (1, a3, ⟨#[]⟩)).toArray) rfl (by kernel_rfl)) ?_
        refine X.opE X.wN rfl (X.storeNE Try.sizeOf75 ((hB1.ext hx2 (by intros; (try simp only []); omega)).ext hx3 (by intros; (try simp only []); omega)) rfl rfl rfl rfl (encV_one _)) ?_
        rintro _ w4 ⟨hB4, hx4, hz4⟩
        refine X.opsEnd ?_
        refine X.ret_unw (X.unwR1 Try.func75 Try.results75 (X.ResOk.cell rfl (X.lvN Try.isAgg75 Try.sizeOf75 hB4 rfl)) ?_)
        rw [pVal, if_pos (by omega), hb3]
        exact ⟨_, rfl, ⟨rfl, by simp [okI], hn3, by simp [ByteArray.size]⟩, (hR3.ext hx4 (by intros; (try simp only []); omega)), (Ext.andThen (Ext.andThen (Ext.andThen (Ext.andThen (Ext.refl (fun k => k = rb) _) hk1 (by intro k h1 h2; first | exact h2.elim | omega | (simp only [] at *; omega))) hx2 (by intro k h1 h2; first | exact h2.elim | omega | (simp only [] at *; omega))) hx3 (by intro k h1 h2; first | exact h2.elim | omega | (simp only [] at *; omega))) hx4 (by intro k h1 h2; first | exact h2.elim | omega | (simp only [] at *; omega)))⟩
      · rintro w3 hx3
        have hx3' := hx3.size
        refine X.unw_pan Try.func75 ?_
        first
        | (rw [head_none hb2, pVal]; exact ⟨rfl, (Ext.andThen (Ext.andThen (Ext.andThen (Ext.refl (fun k => k = rb) _) hk1 (by intro k h1 h2; first | exact h2.elim | omega | (simp only [] at *; omega))) hx2 (by intro k h1 h2; first | exact h2.elim | omega | (simp only [] at *; omega))) hx3 (by intro k h1 h2; first | exact h2.elim | omega | (simp only [] at *; omega)))⟩)
        | (rw [pVal, if_pos (by omega), hb3]; exact ⟨rfl, (Ext.andThen (Ext.andThen (Ext.andThen (Ext.refl (fun k => k = rb) _) hk1 (by intro k h1 h2; first | exact h2.elim | omega | (simp only [] at *; omega))) hx2 (by intro k h1 h2; first | exact h2.elim | omega | (simp only [] at *; omega))) hx3 (by intro k h1 h2; first | exact h2.elim | omega | (simp only [] at *; omega)))⟩)
        | (rw [pVal, if_neg (by omega), if_pos (by omega), hb5]; exact ⟨rfl, (Ext.andThen (Ext.andThen (Ext.andThen (Ext.refl (fun k => k = rb) _) hk1 (by intro k h1 h2; first | exact h2.elim | omega | (simp only [] at *; omega))) hx2 (by intro k h1 h2; first | exact h2.elim | omega | (simp only [] at *; omega))) hx3 (by intro k h1 h2; first | exact h2.elim | omega | (simp only [] at *; omega)))⟩)
        | (rw [pVal, if_neg (by omega), if_neg (by omega)]; exact ⟨rfl, (Ext.andThen (Ext.andThen (Ext.andThen (Ext.refl (fun k => k = rb) _) hk1 (by intro k h1 h2; first | exact h2.elim | omega | (simp only [] at *; omega))) hx2 (by intro k h1 h2; first | exact h2.elim | omega | (simp only [] at *; omega))) hx3 (by intro k h1 h2; first | exact h2.elim | omega | (simp only [] at *; omega)))⟩)
    · refine X.opw X.wN rfl (X.assign (v := .bool false) rfl) ?_
      refine X.opsEnd ?_
      refine X.condF rfl ?_
      refine X.seq ?_
      refine X.region ?_
      refine X.opP X.wN rfl rfl (X.eqI rfl rfl) (fun h13 => ?_) (fun h13 => ?_)
      · refine X.opw X.wN rfl (X.assign (v := .bool true) rfl) ?_
        refine X.opsEnd ?_
        refine X.condT rfl ?_
        refine X.seq ?_
        refine X.region ?_
        refine X.opw X.wN rfl (X.move rfl) ?_
        refine X.opPR (text_c 256 (by simp [okI]) hi rb T _ _ hR2) X.wN rfl Try.call57 rfl (fun b5 hb5 => ?_) (fun hb5 => ?_)
        · rintro v5 w5 ⟨hM5, hR5, hx5⟩
          have hx5' := hx5.size
          have hn5 := pText_len hb5
          obtain ⟨a5, ys5⟩ := b5
          simp only at hR5 hn5 hM5
          have q6 := hM5.slF KB_flat 0 (fun _ _ => Nat.zero_le _)
          obtain ⟨A6, c6, rfl, hc6, hs6⟩ := q6
          refine X.opw X.wN rfl (X.str Try.underlying25 Try.underlying5 Try.underlying9 rfl KB_is rfl hs6) ?_
          refine X.opw X.wN rfl (X.buildB (vs := [(0, .int .i64 2), (2, .string ⟨a5.toArray⟩)]) (cs := (encV (2, 0, ⟨a5.toArray⟩)).toArray) rfl (by kernel_rfl)) ?_
          refine X.opE X.wN rfl (X.storeNE Try.sizeOf75 ((hB1.ext hx2 (by intros; (try simp only []); omega)).ext hx5 (by intros; (try simp only []); omega)) rfl rfl rfl rfl (encV_one _)) ?_
          rintro _ w7 ⟨hB7, hx7, hz7⟩
          refine X.opsEnd ?_
          refine X.ret_unw (X.unwR1 Try.func75 Try.results75 (X.ResOk.cell rfl (X.lvN Try.isAgg75 Try.sizeOf75 hB7 rfl)) ?_)
          rw [pVal, if_neg (by omega), if_pos (by omega), hb5]
          exact ⟨_, rfl, ⟨rfl, by simp [okI], by simp [okI], by show a5.toArray.size ≤ _; simp; omega⟩, (hR5.ext hx7 (by intros; (try simp only []); omega)), (Ext.andThen (Ext.andThen (Ext.andThen (Ext.andThen (Ext.refl (fun k => k = rb) _) hk1 (by intro k h1 h2; first | exact h2.elim | omega | (simp only [] at *; omega))) hx2 (by intro k h1 h2; first | exact h2.elim | omega | (simp only [] at *; omega))) hx5 (by intro k h1 h2; first | exact h2.elim | omega | (simp only [] at *; omega))) hx7 (by intro k h1 h2; first | exact h2.elim | omega | (simp only [] at *; omega)))⟩
        · rintro w5 hx5
          have hx5' := hx5.size
          refine X.unw_pan Try.func75 ?_
          first
          | (rw [head_none hb2, pVal]; exact ⟨rfl, (Ext.andThen (Ext.andThen (Ext.andThen (Ext.refl (fun k => k = rb) _) hk1 (by intro k h1 h2; first | exact h2.elim | omega | (simp only [] at *; omega))) hx2 (by intro k h1 h2; first | exact h2.elim | omega | (simp only [] at *; omega))) hx5 (by intro k h1 h2; first | exact h2.elim | omega | (simp only [] at *; omega)))⟩)
          | (rw [pVal, if_pos (by omega), hb3]; exact ⟨rfl, (Ext.andThen (Ext.andThen (Ext.andThen (Ext.refl (fun k => k = rb) _) hk1 (by intro k h1 h2; first | exact h2.elim | omega | (simp only [] at *; omega))) hx2 (by intro k h1 h2; first | exact h2.elim | omega | (simp only [] at *; omega))) hx5 (by intro k h1 h2; first | exact h2.elim | omega | (simp only [] at *; omega)))⟩)
          | (rw [pVal, if_neg (by omega), if_pos (by omega), hb5]; exact ⟨rfl, (Ext.andThen (Ext.andThen (Ext.andThen (Ext.refl (fun k => k = rb) _) hk1 (by intro k h1 h2; first | exact h2.elim | omega | (simp only [] at *; omega))) hx2 (by intro k h1 h2; first | exact h2.elim | omega | (simp only [] at *; omega))) hx5 (by intro k h1 h2; first | exact h2.elim | omega | (simp only [] at *; omega)))⟩)
          | (rw [pVal, if_neg (by omega), if_neg (by omega)]; exact ⟨rfl, (Ext.andThen (Ext.andThen (Ext.andThen (Ext.refl (fun k => k = rb) _) hk1 (by intro k h1 h2; first | exact h2.elim | omega | (simp only [] at *; omega))) hx2 (by intro k h1 h2; first | exact h2.elim | omega | (simp only [] at *; omega))) hx5 (by intro k h1 h2; first | exact h2.elim | omega | (simp only [] at *; omega)))⟩)
      · refine X.opw X.wN rfl (X.assign (v := .bool false) rfl) ?_
        refine X.opsEnd ?_
        refine X.condF rfl ?_
        refine X.skip ?_
        refine X.inBlock ?_
        refine X.region ?_
        refine X.opw X.wN rfl (X.buildB (cs := #[]) rfl (by kernel_rfl)) ?_
        refine X.opw X.wN rfl (X.mkIface Try.underlying88 rfl rfl) ?_
        refine X.opPanic X.wN rfl ?_
        refine X.unw_pan Try.func75 ?_
        first
        | (rw [head_none hb2, pVal]; exact ⟨rfl, (Ext.andThen (Ext.andThen (Ext.refl (fun k => k = rb) _) hk1 (by intro k h1 h2; first | exact h2.elim | omega | (simp only [] at *; omega))) hx2 (by intro k h1 h2; first | exact h2.elim | omega | (simp only [] at *; omega)))⟩)
        | (rw [pVal, if_pos (by omega), hb3]; exact ⟨rfl, (Ext.andThen (Ext.andThen (Ext.refl (fun k => k = rb) _) hk1 (by intro k h1 h2; first | exact h2.elim | omega | (simp only [] at *; omega))) hx2 (by intro k h1 h2; first | exact h2.elim | omega | (simp only [] at *; omega)))⟩)
        | (rw [pVal, if_neg (by omega), if_pos (by omega), hb5]; exact ⟨rfl, (Ext.andThen (Ext.andThen (Ext.refl (fun k => k = rb) _) hk1 (by intro k h1 h2; first | exact h2.elim | omega | (simp only [] at *; omega))) hx2 (by intro k h1 h2; first | exact h2.elim | omega | (simp only [] at *; omega)))⟩)
        | (rw [pVal, if_neg (by omega), if_neg (by omega)]; exact ⟨rfl, (Ext.andThen (Ext.andThen (Ext.refl (fun k => k = rb) _) hk1 (by intro k h1 h2; first | exact h2.elim | omega | (simp only [] at *; omega))) hx2 (by intro k h1 h2; first | exact h2.elim | omega | (simp only [] at *; omega)))⟩)
  · rintro w2 hx2
    have hx2' := hx2.size
    refine X.unw_pan Try.func75 ?_
    first
    | (rw [head_none hb2, pVal]; exact ⟨rfl, (Ext.andThen (Ext.andThen (Ext.refl (fun k => k = rb) _) hk1 (by intro k h1 h2; first | exact h2.elim | omega | (simp only [] at *; omega))) hx2 (by intro k h1 h2; first | exact h2.elim | omega | (simp only [] at *; omega)))⟩)
    | (rw [pVal, if_pos (by omega), hb3]; exact ⟨rfl, (Ext.andThen (Ext.andThen (Ext.refl (fun k => k = rb) _) hk1 (by intro k h1 h2; first | exact h2.elim | omega | (simp only [] at *; omega))) hx2 (by intro k h1 h2; first | exact h2.elim | omega | (simp only [] at *; omega)))⟩)
    | (rw [pVal, if_neg (by omega), if_pos (by omega), hb5]; exact ⟨rfl, (Ext.andThen (Ext.andThen (Ext.refl (fun k => k = rb) _) hk1 (by intro k h1 h2; first | exact h2.elim | omega | (simp only [] at *; omega))) hx2 (by intro k h1 h2; first | exact h2.elim | omega | (simp only [] at *; omega)))⟩)
    | (rw [pVal, if_neg (by omega), if_neg (by omega)]; exact ⟨rfl, (Ext.andThen (Ext.andThen (Ext.refl (fun k => k = rb) _) hk1 (by intro k h1 h2; first | exact h2.elim | omega | (simp only [] at *; omega))) hx2 (by intro k h1 h2; first | exact h2.elim | omega | (simp only [] at *; omega)))⟩)
theorem litV_ok {K : World} {x : VAL} (h : okV x) : RepsV KV K [x] [.agg (encV x).toArray] := ⟨⟨encV x, rfl, rfl, h⟩, trivial⟩
-- f59 "(*pedigree/pack.reader).tuple" params [81] results [23] -> [(ResultVar.tmp 2)] nfree 0 ntmps 24 names 
set_option maxHeartbeats 4000000 in
set_option maxRecDepth 100000 in
theorem tuple_c (hi rb T : Nat) (xs : List UInt8) (w : World) (hr : Rd w hi rb T xs) : PP 59 #[.pointer (some ⟨rb, 0, none⟩)] w hi rb T (pTup xs) (fun a v w' => Mine KV 75 (fun k => w.heap.size ≤ k) 0 0 w' v a ∧ (∀ u ∈ a, okV u) ∧ a.length ≤ 8) := by
  have hrl := hr.lt
  have hhr := hr.T
  refine X.enter Try.func59 rfl Try.ntmps59 rfl ?_
  refine X.seq ?_
  refine X.region ?_
  refine X.opw X.wN rfl (X.assign rfl) ?_
  refine X.opsEnd ?_
  refine X.seq ?_
  refine X.region ?_
  refine X.opw X.wN rfl (X.move rfl) ?_
  refine X.opPR (some1_c hi rb T _ _ hr) X.wN rfl Try.call69 rfl (fun x1 hb1 => ?_) (fun hb1 => ?_)
  · rintro _ w1 ⟨⟨A1, c1, rfl, hcc1, hs1⟩, hR1, hx1⟩
    have hx1' := hx1.size
    obtain ⟨ys1, rfl⟩ := head_some hb1
    simp only [List.tail_cons] at hR1
    have hu1 := x1.toNat_lt
    refine X.opw X.wN rfl (X.idxS hs1 Try.underlying25 Try.sizeOf5 rfl rfl ⟨by omega, by omega⟩) ?_
    refine X.opw X.wN rfl (X.loadS Try.isAgg5 hs1 (j := 0) rfl rfl (fun _ h => by rw [h.1]; rfl)) ?_
    refine X.opw X.wN rfl (X.cvI Try.underlying5 Try.underlying3 rfl (X.w_i64 (by omega))) ?_
    refine X.opw X.wN rfl (X.assign (v := .int .i64 _) rfl) ?_
    refine X.opsEnd ?_
    refine X.seq ?_
    refine X.seq ?_
    refine X.region ?_
    refine X.opw X.wN rfl (X.move (v := .int .i64 _) rfl) ?_
    refine X.opP X.wN rfl rfl (X.gtr rfl rfl) (fun h11 => ?_) (fun h11 => ?_)
    · refine X.opsEnd ?_
      refine X.condT rfl ?_
      refine X.region ?_
      refine X.opw X.wN rfl (X.buildB (cs := #[]) rfl (by kernel_rfl)) ?_
      refine X.opw X.wN rfl (X.mkIface Try.underlying88 rfl rfl) ?_
      refine X.opPanic X.wN rfl ?_
      refine X.unw_pan Try.func59 ?_
      first
      | (rw [head_none hb1, pTup]; exact ⟨rfl, (Ext.andThen (Ext.refl (fun k => k = rb) _) hx1 (by intro k h1 h2; first | exact h2.elim | omega | (simp only [] at *; omega)))⟩)
      | (rw [pTup, if_pos (by omega)]; exact ⟨rfl, (Ext.andThen (Ext.refl (fun k => k = rb) _) hx1 (by intro k h1 h2; first | exact h2.elim | omega | (simp only [] at *; omega)))⟩)
      | (rw [pTup, if_neg (by omega), ← hp, hb2]; exact ⟨rfl, (Ext.andThen (Ext.refl (fun k => k = rb) _) hx1 (by intro k h1 h2; first | exact h2.elim | omega | (simp only [] at *; omega)))⟩)
    · refine X.opsEnd ?_
      refine X.condF rfl ?_
      refine X.skip ?_
      refine X.seq ?_
      refine X.region ?_
      refine X.opw X.wN rfl (X.assign rfl) ?_
      refine X.opsEnd ?_
      refine X.seq ?_
      refine X.seq ?_
      refine X.region ?_
      refine X.opw X.wN rfl (X.move (v := .int .i64 _) rfl) ?_
      refine X.opw X.wN rfl (X.move rfl) ?_
      refine X.opsEnd ?_
      refine X.block ?_
      -- LOOP live: 0=r, 4=t*, 14, 15*
      refine X.loopL (σ := Nat × Value × List VAL × List UInt8) (fun s => [(0, .pointer (some ⟨rb, 0, none⟩)), (4, s.2.1), (14, .int .i64 (x1.toNat : Int)), (15, .int .i64 (s.1 : Int))]) (fun s w' => s.1 ≤ x1.toNat ∧ s.2.2.1.length = s.1 ∧ (∀ u ∈ s.2.2.1, okV u) ∧ Mine KV 75 (fun k => w.heap.size ≤ k) 0 0 w' s.2.1 s.2.2.1 ∧ Rd w' hi rb T s.2.2.2 ∧ (pVals (x1.toNat - s.1) s.2.2.2).map (fun b => (s.2.2.1 ++ b.1, b.2)) = pVals x1.toNat ys1 ∧ Ext (fun k => k = rb) w w') (fun s => x1.toNat - s.1) (0, _, [], ys1) ⟨rfl, rfl, rfl, rfl, trivial⟩ ⟨Nat.zero_le _, rfl, by simp, (Mine.nil _ _ _ _ _ _), hR1, by simp, (Ext.andThen (Ext.refl (fun k => k = rb) _) hx1 (by intro k h1 h2; first | exact h2.elim | omega | (simp only [] at *; omega)))⟩ ?_
      rintro ⟨i, v, l, ys⟩ b wl ⟨hi0, hll, hlo, hM, hR, hp, hk⟩ hback
      simp only at hi0 hll hlo hM hR hp
      have hk' := hk.size
      have hrl2 := hR.lt
      refine X.seq ?_
      refine X.region ?_
      refine X.opP X.wN rfl rfl (X.lss rfl rfl) (fun h16 => ?_) (fun h16 => ?_)
      · rw [show x1.toNat - i = (x1.toNat - (i + 1)) + 1 by omega, pVals] at hp
        refine X.opsEnd ?_
        refine X.seq ?_
        refine X.condT rfl ?_
        refine X.skip ?_
        refine X.seq ?_
        refine X.block ?_
        refine X.region ?_
        refine X.opw X.wN rfl (X.move rfl) ?_
        refine X.opw X.wN rfl (X.move rfl) ?_
        refine X.opPR (value_c hi rb T _ _ hR) X.wN rfl Try.call75 rfl (fun b2 hb2 => ?_) (fun hb2 => ?_)
        · rintro _ w2 ⟨⟨rfl, hn2⟩, hR2, hx2⟩
          have hx2' := hx2.size
          obtain ⟨a2, ys2⟩ := b2
          simp only at hR2 hn2
          refine X.opE X.wN rfl (X.litKE (K := KV) (xs := [Operand.tmp 19]) (vs := [.agg (encV a2).toArray]) (ys := [a2]) Try.underlying23 Try.sizeOf75 Try.zeroValue75 rfl rfl rfl rfl rfl (litV_ok hn2)) ?_
          rintro _ w3 ⟨rfl, hs3, hB3, hk3, hz3⟩
          refine X.opE X.wN rfl (X.appE (K := KV) (S := fun k => w.heap.size ≤ k) KV_flat Try.underlying23 EV rfl rfl ((hM.ext hx2 (by intros; (try simp only []); omega) (by intros; (try simp only []); omega)).keep hk3) hs3 (by (try simp only [List.length_append, List.length_cons, List.length_nil, List.length_take, List.length_drop, List.length_map, List.length_range]); omega) (by intros; (try simp only [] at *); omega)) ?_
          rintro v4 w4 ⟨hM4, hx4⟩
          have hx4' := hx4.size
          refine X.opw X.wN rfl (X.assign rfl) ?_
          refine X.opsEnd ?_
          refine X.inBlock ?_
          refine X.region ?_
          refine X.opw X.wN rfl (X.add rfl rfl (X.w_i64 (by omega))) ?_
          refine X.opw X.wN rfl (X.move (v := .int .i64 _) rfl) ?_
          refine X.opsEnd ?_
          refine hback (i + 1, _, l ++ [a2], ys2) _ _ ⟨rfl, rfl, rfl, rfl, trivial⟩ ⟨by simp only []; omega, by simp only [List.length_append, List.length_cons, List.length_nil]; omega, by intro u hu; simp only [List.mem_append, List.mem_singleton] at hu; rcases hu with hu | rfl; exact hlo u hu; exact hn2, hM4, ((hR2.keep hk3).ext hx4 (by intros; (try simp only []); omega)), by rw [hb2] at hp; dsimp only at hp; rw [← hp, Option.map_map]; congr 1; funext b; simp, (Ext.andThen (Ext.andThen (Ext.andThen (Ext.andThen (Ext.refl (fun k => k = rb) _) hk (by intro k h1 h2; first | exact h2.elim | omega | (simp only [] at *; omega))) hx2 (by intro k h1 h2; first | exact h2.elim | omega | (simp only [] at *; omega))) hk3 (by intro k h1 h2; first | exact h2.elim | omega | (simp only [] at *; omega))) hx4 (by intro k h1 h2; first | exact h2.elim | omega | (simp only [] at *; omega)))⟩ (by simp only []; omega)
        · rintro w2 hx2
          have hx2' := hx2.size
          refine X.unw_pan Try.func59 ?_
          first
          | (rw [head_none hb1, pTup]; exact ⟨rfl, (Ext.andThen (Ext.andThen (Ext.refl (fun k => k = rb) _) hk (by intro k h1 h2; first | exact h2.elim | omega | (simp only [] at *; omega))) hx2 (by intro k h1 h2; first | exact h2.elim | omega | (simp only [] at *; omega)))⟩)
          | (rw [pTup, if_pos (by omega)]; exact ⟨rfl, (Ext.andThen (Ext.andThen (Ext.refl (fun k => k = rb) _) hk (by intro k h1 h2; first | exact h2.elim | omega | (simp only [] at *; omega))) hx2 (by intro k h1 h2; first | exact h2.elim | omega | (simp only [] at *; omega)))⟩)
          | (rw [pTup, if_neg (by omega), ← hp, hb2]; exact ⟨rfl, (Ext.andThen (Ext.andThen (Ext.refl (fun k => k = rb) _) hk (by intro k h1 h2; first | exact h2.elim | omega | (simp only [] at *; omega))) hx2 (by intro k h1 h2; first | exact h2.elim | omega | (simp only [] at *; omega)))⟩)
      · refine X.opsEnd ?_
        refine X.seq ?_
        refine X.condF rfl ?_
        refine X.exit rfl ?_
        refine X.seq ?_
        refine X.region ?_
        refine X.opw X.wN rfl (X.move rfl) ?_
        refine X.opw X.wN rfl (X.assign rfl) ?_
        refine X.opsEnd ?_
        refine X.ret1 Try.func59 Try.results59 rfl ?_
        rw [pTup, if_neg (by omega), ← hp, show x1.toNat - i = 0 by omega, pVals]
        exact ⟨_, rfl, ⟨by show Mine _ _ _ _ _ _ _ (l ++ []); rw [List.append_nil]; exact hM, by simpa using hlo, by simp; omega⟩, hR, (Ext.andThen (Ext.refl (fun k => k = rb) _) hk (by intro k h1 h2; first | exact h2.elim | omega | (simp only [] at *; omega)))⟩
  · rintro w1 hx1
    have hx1' := hx1.size
    refine X.unw_pan Try.func59 ?_
    first
    | (rw [head_none hb1, pTup]; exact ⟨rfl, (Ext.andThen (Ext.refl (fun k => k = rb) _) hx1 (by intro k h1 h2; first | exact h2.elim | omega | (simp only [] at *; omega)))⟩)
    | (rw [pTup, if_pos (by omega)]; exact ⟨rfl, (Ext.andThen (Ext.refl (fun k => k = rb) _) hx1 (by intro k h1 h2; first | exact h2.elim | omega | (simp only [] at *; omega)))⟩)
    | (rw [pTup, if_neg (by omega), ← hp, hb2]; exact ⟨rfl, (Ext.andThen (Ext.refl (fun k => k = rb) _) hx1 (by intro k h1 h2; first | exact h2.elim | omega | (simp only [] at *; omega)))⟩)
/-- A symbol of a key, up to its end. -/
def pSym : List UInt8 → Option (List UInt8 × List UInt8)
  | [] => none
  | c :: xs => if c.toNat = 0 then match xs with
      | [] => none
      | d :: ys => if d.toNat = 1 then some ([], ys) else if d.toNat = 255 then (pSym ys).map fun b => (c :: b.1, b.2) else none
    else (pSym xs).map fun b => (c :: b.1, b.2)
theorem pSym_0 {c : UInt8} {xs : List UInt8} (h : c.toNat = 0) : pSym (c :: xs) = match xs with
      | [] => none
      | d :: ys => if d.toNat = 1 then some ([], ys) else if d.toNat = 255 then (pSym ys).map fun b => (c :: b.1, b.2) else none := by
  conv => lhs; rw [pSym.eq_def]
  exact if_pos h
theorem pSym_1 {c : UInt8} {xs : List UInt8} (h : ¬ c.toNat = 0) : pSym (c :: xs) = (pSym xs).map fun b => (c :: b.1, b.2) := by
  conv => lhs; rw [pSym.eq_def]
  exact if_neg h
theorem map_map_cons (o : Option (List UInt8 × List UInt8)) (s : List UInt8) (c : UInt8) : (o.map fun b => (s ++ [c] ++ b.1, b.2)) = ((o.map fun b => (c :: b.1, b.2)).map fun b => (s ++ b.1, b.2)) := by
  rw [Option.map_map]; congr 1; funext b; simp
-- f70 "(*pedigree/pack.reader).symbol" params [81] results [9] -> [(ResultVar.tmp 2)] nfree 0 ntmps 27 names 
set_option maxHeartbeats 4000000 in
set_option maxRecDepth 100000 in
theorem symbol_c (hi rb T : Nat) (xs : List UInt8) (w : World) (hr : Rd w hi rb T xs) : PP 70 #[.pointer (some ⟨rb, 0, none⟩)] w hi rb T (pSym xs) (fun a v _ => v = .string ⟨a.toArray⟩ ∧ a.length ≤ 1000000) := by
  have hrl := hr.lt
  have hhr := hr.T
  refine X.enter Try.func70 rfl Try.ntmps70 rfl ?_
  refine X.seq ?_
  refine X.region ?_
  refine X.opw X.wN rfl (X.assign rfl) ?_
  refine X.opsEnd ?_
  refine X.seq ?_
  refine X.region ?_
  refine X.opw X.wN rfl (X.assign rfl) ?_
  refine X.opsEnd ?_
  refine X.block ?_
  -- LOOP live: 0=r, 3=s*
  refine X.loopL (σ := Value × List UInt8 × List UInt8) (fun s => [(0, .pointer (some ⟨rb, 0, none⟩)), (3, s.1)]) (fun s w' => s.2.1.length + s.2.2.length ≤ T ∧ Mine KB 5 (fun k => w.heap.size ≤ k) 0 0 w' s.1 s.2.1 ∧ Rd w' hi rb T s.2.2 ∧ ((pSym s.2.2).map fun b => (s.2.1 ++ b.1, b.2)) = pSym xs ∧ Ext (fun k => k = rb) w w') (fun s => s.2.2.length) (_, [], xs) ⟨rfl, rfl, trivial⟩ ⟨by simp; omega, (Mine.nil _ _ _ _ _ _), hr, by simp, (Ext.refl (fun k => k = rb) _)⟩ ?_
  rintro ⟨v, s, l⟩ b wl ⟨hll, hM, hR, hp, hk⟩ hback
  simp only at hll hM hR hp
  have hk' := hk.size
  have hrl2 := hR.lt
  refine X.block ?_
  refine X.seq ?_
  refine X.region ?_
  refine X.opw X.wN rfl (X.move rfl) ?_
  refine X.opPR (some1_c hi rb T _ _ hR) X.wN rfl Try.call69 rfl (fun x1 hb1 => ?_) (fun hb1 => ?_)
  · rintro _ w1 ⟨⟨A1, c1, rfl, hcc1, hs1⟩, hR1, hx1⟩
    have hx1' := hx1.size
    obtain ⟨ys1, rfl⟩ := head_some hb1
    simp only [List.tail_cons] at hR1
    have hu1 := x1.toNat_lt
    refine X.opw X.wN rfl (X.idxS hs1 Try.underlying25 Try.sizeOf5 rfl rfl ⟨by omega, by omega⟩) ?_
    refine X.opw X.wN rfl (X.loadS Try.isAgg5 hs1 (j := 0) rfl rfl (fun _ h => by rw [h.1]; rfl)) ?_
    refine X.opw X.wN rfl (X.assign (v := .int .u8 _) rfl) ?_
    refine X.opsEnd ?_
    refine X.seq ?_
    refine X.seq ?_
    refine X.region ?_
    refine X.opw X.wN rfl (X.move (v := .int .u8 _) rfl) ?_
    refine X.opP X.wN rfl rfl (X.eqI rfl rfl) (fun h10 => ?_) (fun h10 => ?_)
    · refine X.opsEnd ?_
      refine X.condT rfl ?_
      refine X.seq ?_
      refine X.region ?_
      refine X.opw X.wN rfl (X.move rfl) ?_
      refine X.opPR (some1_c hi rb T _ _ hR1) X.wN rfl Try.call69 rfl (fun x2 hb2 => ?_) (fun hb2 => ?_)
      · rintro _ w2 ⟨⟨A2, c2, rfl, hcc2, hs2⟩, hR2, hx2⟩
        have hx2' := hx2.size
        obtain ⟨ys2, rfl⟩ := head_some hb2
        simp only [List.tail_cons] at hR2
        have hu2 := x2.toNat_lt
        refine X.opw X.wN rfl (X.idxS hs2 Try.underlying25 Try.sizeOf5 rfl rfl ⟨by omega, by omega⟩) ?_
        refine X.opw X.wN rfl (X.loadS Try.isAgg5 hs2 (j := 0) rfl rfl (fun _ h => by rw [h.1]; rfl)) ?_
        refine X.opsEnd ?_
        refine X.block ?_
        refine X.seq ?_
        refine X.region ?_
        refine X.opP X.wN rfl rfl (X.eqI rfl rfl) (fun h18 => ?_) (fun h18 => ?_)
        · refine X.opw X.wN rfl (X.assign (v := .bool true) rfl) ?_
          refine X.opsEnd ?_
          refine X.condT rfl ?_
          refine X.seq ?_
          refine X.region ?_
          refine X.opw X.wN rfl (X.move rfl) ?_
          have q3 := ((hM.ext hx1 (by intros; (try simp only []); omega) (by intros; (try simp only []); omega)).ext hx2 (by intros; (try simp only []); omega) (by intros; (try simp only []); omega)).slF KB_flat 0 (fun _ _ => Nat.zero_le _)
          obtain ⟨A3, c3, rfl, hc3, hs3⟩ := q3
          refine X.opw X.wN rfl (X.str Try.underlying25 Try.underlying5 Try.underlying9 rfl KB_is rfl hs3) ?_
          refine X.opw X.wN rfl (X.assign (v := .string _) rfl) ?_
          refine X.opsEnd ?_
          refine X.ret1 (v := (.string _)) Try.func70 Try.results70 rfl ?_
          rw [← hp, pSym_0 (by omega)]
          dsimp only
          rw [if_pos (by omega)]
          simp only [List.length_cons] at hll
          exact ⟨_, rfl, ⟨by dsimp only; rw [List.append_nil], by dsimp only; rw [List.append_nil]; omega⟩, hR2, (Ext.andThen (Ext.andThen (Ext.andThen (Ext.refl (fun k => k = rb) _) hk (by intro k h1 h2; first | exact h2.elim | omega | (simp only [] at *; omega))) hx1 (by intro k h1 h2; first | exact h2.elim | omega | (simp only [] at *; omega))) hx2 (by intro k h1 h2; first | exact h2.elim | omega | (simp only [] at *; omega)))⟩
        · refine X.opw X.wN rfl (X.assign (v := .bool false) rfl) ?_
          refine X.opsEnd ?_
          refine X.condF rfl ?_
          refine X.seq ?_
          refine X.region ?_
          refine X.opP X.wN rfl rfl (X.eqI rfl rfl) (fun h22 => ?_) (fun h22 => ?_)
          · refine X.opw X.wN rfl (X.assign (v := .bool true) rfl) ?_
            refine X.opsEnd ?_
            refine X.condT rfl ?_
            refine X.skip ?_
            refine X.inBlock ?_
            refine X.region ?_
            refine X.opw X.wN rfl (X.move rfl) ?_
            refine X.opw X.wN rfl (X.move (v := .int .u8 _) rfl) ?_
            refine X.opE X.wN rfl (X.lit1B Try.underlying25 Try.sizeOf5 Try.zeroValue5 rfl) ?_
            rintro _ w4 ⟨rfl, hs4, hB4, hk4, hz4⟩
            refine X.opE X.wN rfl (X.appE (K := KB) (S := fun k => w.heap.size ≤ k) KB_flat Try.underlying25 E5 rfl rfl (((hM.ext hx1 (by intros; (try simp only []); omega) (by intros; (try simp only []); omega)).ext hx2 (by intros; (try simp only []); omega) (by intros; (try simp only []); omega)).keep hk4) hs4 (by (try simp only [List.length_append, List.length_cons, List.length_nil, List.length_take, List.length_drop, List.length_map, List.length_range]); omega) (by intros; (try simp only [] at *); omega)) ?_
            rintro v5 w5 ⟨hM5, hx5⟩
            have hx5' := hx5.size
            refine X.opw X.wN rfl (X.assign rfl) ?_
            refine X.opsEnd ?_
            refine X.inBlock ?_
            refine hback (_, s ++ [x1], ys2) _ _ ⟨rfl, rfl, trivial⟩ ⟨by simp only [List.length_append, List.length_cons, List.length_nil] at *; omega, hM5, ((hR2.keep hk4).ext hx5 (by intros; (try simp only []); omega)), by rw [← hp, pSym_0 (by omega)]; dsimp only; rw [if_neg (by omega), if_pos (by omega), map_map_cons], (Ext.andThen (Ext.andThen (Ext.andThen (Ext.andThen (Ext.andThen (Ext.refl (fun k => k = rb) _) hk (by intro k h1 h2; first | exact h2.elim | omega | (simp only [] at *; omega))) hx1 (by intro k h1 h2; first | exact h2.elim | omega | (simp only [] at *; omega))) hx2 (by intro k h1 h2; first | exact h2.elim | omega | (simp only [] at *; omega))) hk4 (by intro k h1 h2; first | exact h2.elim | omega | (simp only [] at *; omega))) hx5 (by intro k h1 h2; first | exact h2.elim | omega | (simp only [] at *; omega)))⟩ (by simp only [List.length_cons]; omega)
          · refine X.opw X.wN rfl (X.assign (v := .bool false) rfl) ?_
            refine X.opsEnd ?_
            refine X.condF rfl ?_
            refine X.region ?_
            refine X.opw X.wN rfl (X.buildB (cs := #[]) rfl (by kernel_rfl)) ?_
            refine X.opw X.wN rfl (X.mkIface Try.underlying88 rfl rfl) ?_
            refine X.opPanic X.wN rfl ?_
            refine X.unw_pan Try.func70 ?_
            first
            | (rw [← hp, head_none hb1]; exact ⟨rfl, (Ext.andThen (Ext.andThen (Ext.andThen (Ext.refl (fun k => k = rb) _) hk (by intro k h1 h2; first | exact h2.elim | omega | (simp only [] at *; omega))) hx1 (by intro k h1 h2; first | exact h2.elim | omega | (simp only [] at *; omega))) hx2 (by intro k h1 h2; first | exact h2.elim | omega | (simp only [] at *; omega)))⟩)
            | (rw [← hp, pSym_0 (by omega), head_none hb2]; exact ⟨rfl, (Ext.andThen (Ext.andThen (Ext.andThen (Ext.refl (fun k => k = rb) _) hk (by intro k h1 h2; first | exact h2.elim | omega | (simp only [] at *; omega))) hx1 (by intro k h1 h2; first | exact h2.elim | omega | (simp only [] at *; omega))) hx2 (by intro k h1 h2; first | exact h2.elim | omega | (simp only [] at *; omega)))⟩)
            | (rw [← hp, pSym_0 (by omega)]; dsimp only; rw [if_neg (by omega), if_neg (by omega)]; exact ⟨rfl, (Ext.andThen (Ext.andThen (Ext.andThen (Ext.refl (fun k => k = rb) _) hk (by intro k h1 h2; first | exact h2.elim | omega | (simp only [] at *; omega))) hx1 (by intro k h1 h2; first | exact h2.elim | omega | (simp only [] at *; omega))) hx2 (by intro k h1 h2; first | exact h2.elim | omega | (simp only [] at *; omega)))⟩)
      · rintro w2 hx2
        have hx2' := hx2.size
        refine X.unw_pan Try.func70 ?_
        first
        | (rw [← hp, head_none hb1]; exact ⟨rfl, (Ext.andThen (Ext.andThen (Ext.andThen (Ext.refl (fun k => k = rb) _) hk (by intro k h1 h2; first | exact h2.elim | omega | (simp only [] at *; omega))) hx1 (by intro k h1 h2; first | exact h2.elim | omega | (simp only [] at *; omega))) hx2 (by intro k h1 h2; first | exact h2.elim | omega | (simp only [] at *; omega)))⟩)
        | (rw [← hp, pSym_0 (by omega), head_none hb2]; exact ⟨rfl, (Ext.andThen (Ext.andThen (Ext.andThen (Ext.refl (fun k => k = rb) _) hk (by intro k h1 h2; first | exact h2.elim | omega | (simp only [] at *; omega))) hx1 (by intro k h1 h2; first | exact h2.elim | omega | (simp only [] at *; omega))) hx2 (by intro k h1 h2; first | exact h2.elim | omega | (simp only [] at *; omega)))⟩)
        | (rw [← hp, pSym_0 (by omega)]; dsimp only; rw [if_neg (by omega), if_neg (by omega)]; exact ⟨rfl, (Ext.andThen (Ext.andThen (Ext.andThen (Ext.refl (fun k => k = rb) _) hk (by intro k h1 h2; first | exact h2.elim | omega | (simp only [] at *; omega))) hx1 (by intro k h1 h2; first | exact h2.elim | omega | (simp only [] at *; omega))) hx2 (by intro k h1 h2; first | exact h2.elim | omega | (simp only [] at *; omega)))⟩)
    · refine X.opsEnd ?_
      refine X.condF rfl ?_
      refine X.skip ?_
      refine X.region ?_
      refine X.opw X.wN rfl (X.move rfl) ?_
      refine X.opw X.wN rfl (X.move (v := .int .u8 _) rfl) ?_
      refine X.opE X.wN rfl (X.lit1B Try.underlying25 Try.sizeOf5 Try.zeroValue5 rfl) ?_
      rintro _ w6 ⟨rfl, hs6, hB6, hk6, hz6⟩
      refine X.opE X.wN rfl (X.appE (K := KB) (S := fun k => w.heap.size ≤ k) KB_flat Try.underlying25 E5 rfl rfl ((hM.ext hx1 (by intros; (try simp only []); omega) (by intros; (try simp only []); omega)).keep hk6) hs6 (by (try simp only [List.length_append, List.length_cons, List.length_nil, List.length_take, List.length_drop, List.length_map, List.length_range]); omega) (by intros; (try simp only [] at *); omega)) ?_
      rintro v7 w7 ⟨hM7, hx7⟩
      have hx7' := hx7.size
      refine X.opw X.wN rfl (X.assign rfl) ?_
      refine X.opsEnd ?_
      refine X.inBlock ?_
      refine hback (_, s ++ [x1], ys1) _ _ ⟨rfl, rfl, trivial⟩ ⟨by simp only [List.length_append, List.length_cons, List.length_nil] at *; omega, hM7, ((hR1.keep hk6).ext hx7 (by intros; (try simp only []); omega)), by rw [← hp, pSym_1 (by omega), map_map_cons], (Ext.andThen (Ext.andThen (Ext.andThen (Ext.andThen (Ext.refl (fun k => k = rb) _) hk (by intro k h1 h2; first | exact h2.elim | omega | (simp only [] at *; omega))) hx1 (by intro k h1 h2; first | exact h2.elim | omega | (simp only [] at *; omega))) hk6 (by intro k h1 h2; first | exact h2.elim | omega | (simp only [] at *; omega))) hx7 (by intro k h1 h2; first | exact h2.elim | omega | (simp only [] at *; omega)))⟩ (by simp only [List.length_cons]; omega)
  · rintro w1 hx1
    have hx1' := hx1.size
    refine X.unw_pan Try.func70 ?_
    first
    | (rw [← hp, head_none hb1]; exact ⟨rfl, (Ext.andThen (Ext.andThen (Ext.refl (fun k => k = rb) _) hk (by intro k h1 h2; first | exact h2.elim | omega | (simp only [] at *; omega))) hx1 (by intro k h1 h2; first | exact h2.elim | omega | (simp only [] at *; omega)))⟩)
    | (rw [← hp, pSym_0 (by omega), head_none hb2]; exact ⟨rfl, (Ext.andThen (Ext.andThen (Ext.refl (fun k => k = rb) _) hk (by intro k h1 h2; first | exact h2.elim | omega | (simp only [] at *; omega))) hx1 (by intro k h1 h2; first | exact h2.elim | omega | (simp only [] at *; omega)))⟩)
    | (rw [← hp, pSym_0 (by omega)]; dsimp only; rw [if_neg (by omega), if_neg (by omega)]; exact ⟨rfl, (Ext.andThen (Ext.andThen (Ext.refl (fun k => k = rb) _) hk (by intro k h1 h2; first | exact h2.elim | omega | (simp only [] at *; omega))) hx1 (by intro k h1 h2; first | exact h2.elim | omega | (simp only [] at *; omega)))⟩)
end Go.Proofs.Ytaclpphhidlgpaa
