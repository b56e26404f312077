/- The reference's own takes: values, tuples, counted tuples. -/
import Derived.Test.YtaclpphhidlgpaaPackZ
namespace Go.Proofs.Ytaclpphhidlgpaa
open Go Go.Proofs.Ytaclpphhidlgpaa.X
set_option linter.unusedVariables false
set_option linter.unusedSimpArgs false

theorem pVal_c1 {c : UInt8} {xs : List UInt8} (h : c.toNat = 1) : pVal (c :: xs) = (pInt xs).map fun b => ((1, b.1, ⟨#[]⟩), b.2) := by rw [pVal, if_pos h]
theorem pVal_c2 {c : UInt8} {xs : List UInt8} (h : c.toNat = 2) : pVal (c :: xs) = (pText 256 xs).map fun b => ((2, 0, ⟨b.1.toArray⟩), b.2) := by rw [pVal, if_neg (by omega), if_pos h]
theorem pVal_c3 {c : UInt8} {xs : List UInt8} (h : c.toNat ≠ 1) (h2 : c.toNat ≠ 2) : pVal (c :: xs) = none := by rw [pVal, if_neg h, if_neg h2]
theorem cnt_bdT (most : Int) (l : List UInt8) : 0 ≤ cnt (pText most l) l.length ∧ cnt (pText most l) l.length ≤ (l.length : Int) := by
  cases hp : pText most l with
  | none => simp [cnt]
  | some b =>
    obtain ⟨hj, _⟩ := pText_just hp
    have hl : l.length = (textB b.1).length + b.2.length := by conv => lhs; rw [hj]; rw [List.length_append]
    simp only [cnt]; omega
theorem code_eq {α β : Type} {o : Option (α × List UInt8)} {q : Option (β × List UInt8)} (h : o.isSome = q.isSome) : code o = code q := by rw [code, code, h]
-- f60 "pedigree/pedigreeref03.takeOne" params [25] results [75, 3, 3] -> [(ResultVar.cell 2 75), (ResultVar.t
set_option maxHeartbeats 4000000 in
set_option maxRecDepth 100000 in
theorem takeOne_c {lo hi : Nat} {A : Option Addr} {n c : Nat} {l : List UInt8} (w : World) (hs : Sl KB lo hi w A n l) (hnc : n ≤ c) (hn : n ≤ 1000000) : Ret Try.prog 60 #[.slice A n c] w fun r w' => (∃ u k, r = .tuple #[.agg (encV u).toArray, .int .i64 k, .int .i64 (code (pVal l))] ∧ ∀ b, pVal l = some b → u = b.1 ∧ k = cnt (pVal l) n) ∧ Keep w w' := by
  have hl := hs.len
  refine X.enter Try.func60 rfl Try.ntmps60 rfl ?_
  refine X.seq ?_
  refine X.region ?_
  refine X.opE X.wN rfl (X.allocE Try.zeroValue75 rfl) ?_
  rintro _ w1 ⟨rfl, hB1, hk1, hz1⟩
  refine X.opw X.wN rfl (X.assign rfl) ?_
  refine X.opw X.wN rfl (X.assign rfl) ?_
  refine X.opsEnd ?_
  refine X.seq ?_
  refine X.seq ?_
  refine X.region ?_
  refine X.opw X.wN rfl (X.move (v := .slice _ _ _) rfl) ?_
  refine X.opw X.wN rfl (X.lenSl Try.underlying25 rfl) ?_
  refine X.opP X.wN rfl rfl (X.eqI rfl rfl) (fun h13 => ?_) (fun h13 => ?_)
  · refine X.opsEnd ?_
    refine X.condT rfl ?_
    refine X.seq ?_
    refine X.region ?_
    refine X.opw X.wN rfl (X.buildB (vs := []) (cs := (encV (0, 0, ⟨#[]⟩)).toArray) rfl (by kernel_rfl)) ?_
    refine X.opE X.wN rfl (X.storeNE Try.sizeOf75 hB1 rfl rfl rfl rfl (encV_one _)) ?_
    rintro _ w2 ⟨hB2, hx2, hz2⟩
    refine X.opw X.wN rfl (X.assign rfl) ?_
    refine X.opw X.wN rfl (X.assign rfl) ?_
    refine X.opsEnd ?_
    refine X.ret_unw (X.unwR3 Try.func60 Try.results60 (X.ResOk.cell rfl (X.lvN Try.isAgg75 Try.sizeOf75 hB2 rfl)) (show X.ResOk _ _ _ (.tmp 3) (.int .i64 _) from rfl) (show X.ResOk _ _ _ (.tmp 4) (.int .i64 _) from rfl) ?_)
    exact ⟨⟨(0, 0, ⟨#[]⟩), 0, by rw [show l = [] from List.eq_nil_of_length_eq_zero (by omega)]; rfl, by rw [show l = [] from List.eq_nil_of_length_eq_zero (by omega)]; intro b hb; cases hb⟩, (hk1.step hx2 (by intros; (try simp only [] at *); omega))⟩
  · obtain ⟨x0, ys0, rfl⟩ : ∃ x ys, l = x :: ys := by
      cases l with
      | nil => exact absurd (by rw [← hl]; rfl) h13
      | cons x ys => exact ⟨x, ys, rfl⟩
    have hu0 := x0.toNat_lt
    have hl9 : ys0.length + 1 = n := by simpa using hl
    have hcb := cnt_bd ys0
    have hci := (told_int ys0 (n - 1)).2.1
    rw [show ys0.length = n - 1 by omega] at hcb
    rw [← hci] at hcb
    have hcT := cnt_bdT 256 ys0
    rw [show ys0.length = n - 1 by omega] at hcT
    refine X.opsEnd ?_
    refine X.condF rfl ?_
    refine X.skip ?_
    refine X.seq ?_
    refine X.seq ?_
    refine X.region ?_
    refine X.opw X.wN rfl (X.move (v := .slice _ _ _) rfl) ?_
    refine X.opw X.wN rfl (X.idxS (hs.keep hk1) Try.underlying25 Try.sizeOf5 rfl rfl ⟨by omega, by omega⟩) ?_
    refine X.opw X.wN rfl (X.loadS Try.isAgg5 (hs.keep hk1) (j := 0) rfl rfl (fun _ h => by rw [h.1]; rfl)) ?_
    refine X.opsEnd ?_
    refine X.block ?_
    refine X.seq ?_
    refine X.region ?_
    refine X.opP X.wN rfl rfl (X.eqI rfl rfl) (fun h19 => ?_) (fun h19 => ?_)
    · refine X.opw X.wN rfl (X.assign (v := .bool true) rfl) ?_
      refine X.opsEnd ?_
      refine X.condT rfl ?_
      refine X.seq ?_
      refine X.region ?_
      refine X.opw X.wN rfl (X.move (v := .slice _ _ _) rfl) ?_
      refine X.opw X.wN rfl (X.cutL Try.underlying25 Try.sizeOf5 rfl rfl (by omega)) ?_
      refine X.opE X.wN rfl (X.callE (RTakeInt_c _ ((show Sl KB lo hi w _ _ ys0 from hs.drop 1 c (by omega) (by omega)).keep hk1) (by omega) (by omega)) Try.call34 rfl rfl) ?_
      rintro _ w3 ⟨rfl, hk3⟩
      have hk3' := hk3.size
      refine X.opw X.wN rfl (X.move rfl) ?_
      refine X.opw X.wN rfl (X.extr rfl rfl) ?_
      refine X.opw X.wN rfl (X.extr rfl rfl) ?_
      refine X.opw X.wN rfl (X.extr rfl rfl) ?_
      refine X.opw X.wN rfl (X.assign (v := .int .i64 _) rfl) ?_
      refine X.opw X.wN rfl (X.assign (v := .int .i64 _) rfl) ?_
      refine X.opw X.wN rfl (X.assign (v := .int .i64 _) rfl) ?_
      refine X.opsEnd ?_
      refine X.seq ?_
      refine X.region ?_
      refine X.opw X.wN rfl (X.move (v := .int .i64 _) rfl) ?_
      refine X.opw X.wN rfl (X.buildB (vs := [(0, .int .i64 1), (1, .int .i64 (told (pInt ys0) 0))]) (cs := (encV (1, told (pInt ys0) 0, ⟨#[]⟩)).toArray) rfl (by kernel_rfl)) ?_
      refine X.opw X.wN rfl (X.move (v := .int .i64 _) rfl) ?_
      refine X.opw X.wN rfl (X.add rfl rfl (X.w_i64 (by omega))) ?_
      refine X.opw X.wN rfl (X.move (v := .int .i64 _) rfl) ?_
      refine X.opE X.wN rfl (X.storeNE Try.sizeOf75 (hB1.keep hk3) rfl rfl rfl rfl (encV_one _)) ?_
      rintro _ w4 ⟨hB4, hx4, hz4⟩
      refine X.opw X.wN rfl (X.assign (v := .int .i64 _) rfl) ?_
      refine X.opw X.wN rfl (X.assign (v := .int .i64 _) rfl) ?_
      refine X.opsEnd ?_
      refine X.ret_unw (X.unwR3 Try.func60 Try.results60 (X.ResOk.cell rfl (X.lvN Try.isAgg75 Try.sizeOf75 hB4 rfl)) (show X.ResOk _ _ _ (.tmp 3) (.int .i64 _) from rfl) (show X.ResOk _ _ _ (.tmp 4) (.int .i64 _) from rfl) ?_)
      refine ⟨⟨(1, told (pInt ys0) 0, ⟨#[]⟩), cnt (pInt ys0) (n - 1) + 1, by rw [code_eq (o := pVal (x0 :: ys0)) (q := pInt ys0) (by rw [pVal_c1 (by omega)]; cases pInt ys0 <;> rfl)], ?_⟩, ((hk1.trans hk3).step hx4 (by intros; (try simp only [] at *); omega))⟩
      intro b hb
      rw [pVal_c1 (by omega)] at hb ⊢
      obtain ⟨q, hq, rfl⟩ := Option.map_eq_some_iff.1 hb
      rw [hq]
      simp only [told, cnt, Option.map_some]
      exact ⟨trivial, by omega⟩
    · refine X.opw X.wN rfl (X.assign (v := .bool false) rfl) ?_
      refine X.opsEnd ?_
      refine X.condF rfl ?_
      refine X.seq ?_
      refine X.region ?_
      refine X.opP X.wN rfl rfl (X.eqI rfl rfl) (fun h33 => ?_) (fun h33 => ?_)
      · refine X.opw X.wN rfl (X.assign (v := .bool true) rfl) ?_
        refine X.opsEnd ?_
        refine X.condT rfl ?_
        refine X.seq ?_
        refine X.region ?_
        refine X.opw X.wN rfl (X.move (v := .slice _ _ _) rfl) ?_
        refine X.opw X.wN rfl (X.cutL Try.underlying25 Try.sizeOf5 rfl rfl (by omega)) ?_
        refine X.opE X.wN rfl (X.callE (RTakeText_c 256 (by simp [okI]) _ ((show Sl KB lo hi w _ _ ys0 from hs.drop 1 c (by omega) (by omega)).keep hk1) (by omega) (by omega)) Try.call36 rfl rfl) ?_
        rintro _ w5 ⟨v5, rfl, hM5, hk5⟩
        have hk5' := hk5.size
        refine X.opw X.wN rfl (X.move rfl) ?_
        refine X.opw X.wN rfl (X.extr rfl rfl) ?_
        refine X.opw X.wN rfl (X.extr rfl rfl) ?_
        refine X.opw X.wN rfl (X.extr rfl rfl) ?_
        refine X.opw X.wN rfl (X.assign rfl) ?_
        refine X.opw X.wN rfl (X.assign (v := .int .i64 _) rfl) ?_
        refine X.opw X.wN rfl (X.assign (v := .int .i64 _) rfl) ?_
        refine X.opsEnd ?_
        refine X.seq ?_
        refine X.region ?_
        refine X.opw X.wN rfl (X.move rfl) ?_
        have q6 := hM5.slF KB_flat 0 (fun _ _ => Nat.zero_le _)
        obtain ⟨A6, c6, rfl, hc6, hs6⟩ := q6
        refine X.opw X.wN rfl (X.str Try.underlying25 Try.underlying5 Try.underlying9 rfl KB_is rfl hs6) ?_
        refine X.opw X.wN rfl (X.buildB (vs := [(0, .int .i64 2), (2, .string ⟨(told (pText 256 ys0) []).toArray⟩)]) (cs := (encV (2, 0, ⟨(told (pText 256 ys0) []).toArray⟩)).toArray) rfl (by kernel_rfl)) ?_
        refine X.opw X.wN rfl (X.move (v := .int .i64 _) rfl) ?_
        refine X.opw X.wN rfl (X.add rfl rfl (X.w_i64 (by omega))) ?_
        refine X.opw X.wN rfl (X.move (v := .int .i64 _) rfl) ?_
        refine X.opE X.wN rfl (X.storeNE Try.sizeOf75 (hB1.keep hk5) rfl rfl rfl rfl (encV_one _)) ?_
        rintro _ w7 ⟨hB7, hx7, hz7⟩
        refine X.opw X.wN rfl (X.assign (v := .int .i64 _) rfl) ?_
        refine X.opw X.wN rfl (X.assign (v := .int .i64 _) rfl) ?_
        refine X.opsEnd ?_
        refine X.ret_unw (X.unwR3 Try.func60 Try.results60 (X.ResOk.cell rfl (X.lvN Try.isAgg75 Try.sizeOf75 hB7 rfl)) (show X.ResOk _ _ _ (.tmp 3) (.int .i64 _) from rfl) (show X.ResOk _ _ _ (.tmp 4) (.int .i64 _) from rfl) ?_)
        refine ⟨⟨(2, 0, ⟨(told (pText 256 ys0) []).toArray⟩), cnt (pText 256 ys0) (n - 1) + 1, by rw [code_eq (o := pVal (x0 :: ys0)) (q := pText 256 ys0) (by rw [pVal_c2 (by omega)]; cases pText 256 ys0 <;> rfl)], ?_⟩, ((hk1.trans hk5).step hx7 (by intros; (try simp only [] at *); omega))⟩
        intro b hb
        rw [pVal_c2 (by omega)] at hb ⊢
        obtain ⟨q, hq, rfl⟩ := Option.map_eq_some_iff.1 hb
        rw [hq]
        simp only [told, cnt, Option.map_some]
        exact ⟨trivial, by omega⟩
      · refine X.opw X.wN rfl (X.assign (v := .bool false) rfl) ?_
        refine X.opsEnd ?_
        refine X.condF rfl ?_
        refine X.skip ?_
        refine X.inBlock ?_
        refine X.seq ?_
        refine X.region ?_
        refine X.opw X.wN rfl (X.buildB (vs := []) (cs := (encV (0, 0, ⟨#[]⟩)).toArray) rfl (by kernel_rfl)) ?_
        refine X.opE X.wN rfl (X.storeNE Try.sizeOf75 hB1 rfl rfl rfl rfl (encV_one _)) ?_
        rintro _ w8 ⟨hB8, hx8, hz8⟩
        refine X.opw X.wN rfl (X.assign rfl) ?_
        refine X.opw X.wN rfl (X.assign rfl) ?_
        refine X.opsEnd ?_
        refine X.ret_unw (X.unwR3 Try.func60 Try.results60 (X.ResOk.cell rfl (X.lvN Try.isAgg75 Try.sizeOf75 hB8 rfl)) (show X.ResOk _ _ _ (.tmp 3) (.int .i64 _) from rfl) (show X.ResOk _ _ _ (.tmp 4) (.int .i64 _) from rfl) ?_)
        refine ⟨⟨(0, 0, ⟨#[]⟩), 0, by rw [pVal_c3 (by omega) (by omega)]; rfl, ?_⟩, (hk1.step hx8 (by intros; (try simp only [] at *); omega))⟩
        intro b hb
        rw [pVal_c3 (by omega) (by omega)] at hb
        cases hb
theorem pVal_suffix {l : List UInt8} {b : VAL × List UInt8} (h : pVal l = some b) : ∃ k : Nat, (l.length : Int) - (b.2.length : Int) = (k : Int) ∧ b.2 = l.drop k ∧ k ≤ l.length ∧ 1 ≤ k ∧ okV b.1 := by
  obtain ⟨hj, _, ho⟩ := pVal_just h
  have hl : l.length = (valB b.1).length + b.2.length := by conv => lhs; rw [hj]; rw [List.length_append]
  have h1 : 1 ≤ (valB b.1).length := by unfold valB; split <;> simp
  refine ⟨(valB b.1).length, by omega, ?_, by omega, h1, ho⟩
  conv => rhs; rw [hj]
  simp
theorem code_0 {α : Type} {o : Option (α × List UInt8)} (h : ¬ code o ≠ 0) : ∃ b, o = some b := by
  cases o with
  | none => simp [code] at h
  | some b => exact ⟨b, rfl⟩
theorem code_1 {α : Type} {o : Option (α × List UInt8)} (h : code o ≠ 0) : o = none := by
  cases o with
  | none => rfl
  | some b => simp [code] at h
-- f38 "pedigree/pedigreeref03.TakeTuple" params [25] results [23, 3, 3] -> [(ResultVar.tmp 2), (ResultVar.tmp
set_option maxHeartbeats 4000000 in
set_option maxRecDepth 100000 in
theorem RTakeTuple_c {lo hi : Nat} {A : Option Addr} {n c : Nat} {l : List UInt8} (w : World) (hs : Sl KB lo hi w A n l) (hnc : n ≤ c) (hn : n ≤ 1000000) : Ret Try.prog 38 #[.slice A n c] w fun r w' => ∃ v, r = .tuple #[v, .int .i64 (cnt (pTup l) n), .int .i64 (code (pTup l))] ∧ Mine KV 75 (fun k => w.heap.size ≤ k) 0 0 w' v (told (pTup l) []) ∧ Keep w w' := by
  have hl := hs.len
  refine X.enter Try.func38 rfl Try.ntmps38 rfl ?_
  refine X.seq ?_
  refine X.region ?_
  refine X.opw X.wN rfl (X.assign rfl) ?_
  refine X.opw X.wN rfl (X.assign rfl) ?_
  refine X.opw X.wN rfl (X.assign rfl) ?_
  refine X.opsEnd ?_
  refine X.seq ?_
  refine X.seq ?_
  refine X.region ?_
  refine X.opw X.wN rfl (X.move (v := .slice _ _ _) rfl) ?_
  refine X.opw X.wN rfl (X.lenSl Try.underlying25 rfl) ?_
  refine X.opP X.wN rfl rfl (X.eqI rfl rfl) (fun h13 => ?_) (fun h13 => ?_)
  · refine X.opw X.wN rfl (X.move (v := .bool true) rfl) ?_
    refine X.opS rfl rfl rfl rfl rfl ?_
    refine X.opS rfl rfl rfl rfl rfl ?_
    refine X.opS rfl rfl rfl rfl rfl ?_
    refine X.opS rfl rfl rfl rfl rfl ?_
    refine X.opw X.wN rfl (X.pickT (v := .bool true) rfl rfl) ?_
    refine X.opsEnd ?_
    refine X.condT rfl ?_
    refine X.seq ?_
    refine X.region ?_
    refine X.opw X.wN rfl (X.assign rfl) ?_
    refine X.opw X.wN rfl (X.assign rfl) ?_
    refine X.opw X.wN rfl (X.assign rfl) ?_
    refine X.opsEnd ?_
    refine X.ret3 (v2 := (.int .i64 _)) (v3 := (.int .i64 _)) Try.func38 Try.results38 rfl rfl rfl ?_
    first
    | exact ⟨_, by rw [show l = [] from List.eq_nil_of_length_eq_zero (by omega)]; rfl, by rw [show l = [] from List.eq_nil_of_length_eq_zero (by omega)]; exact (Mine.nil _ _ _ _ _ _), (Keep.refl _)⟩
    | (have e : pTup (x0 :: ys0) = none := by rw [pTup, if_pos (by omega)]
       exact ⟨_, by rw [e]; rfl, by rw [e]; exact (Mine.nil _ _ _ _ _ _), (Keep.refl _)⟩)
    | (have e : pTup (x0 :: ys0) = none := by rw [pTup, if_neg (by omega), ← hp]; rfl
       exact ⟨_, by rw [e]; rfl, by rw [e]; exact (Mine.nil _ _ _ _ _ _), (Keep.refl _)⟩)
    | (have e : pTup (x0 :: ys0) = some (s, (x0 :: ys0).drop at_) := by rw [pTup, if_neg (by omega), ← hp, show x0.toNat - i = 0 by omega, pVals]; simp
       exact ⟨_, by rw [e]; simp only [cnt, code, Option.isSome_some, if_true]; rw [List.length_drop, show ((n : Nat) : Int) - (((x0 :: ys0).length - at_ : Nat) : Int) = (at_ : Int) by omega], by rw [e]; exact (Mine.nil _ _ _ _ _ _), (Keep.refl _)⟩)
  · obtain ⟨x0, ys0, rfl⟩ : ∃ x ys, l = x :: ys := by
      cases l with
      | nil => exact absurd (by rw [← hl]; rfl) h13
      | cons x ys => exact ⟨x, ys, rfl⟩
    have hu0 := x0.toNat_lt
    have hl9 : ys0.length + 1 = n := by simpa using hl
    refine X.opw X.wN rfl (X.move (v := .bool false) rfl) ?_
    refine X.opw (X.wG rfl rfl rfl) rfl (X.move (v := .slice _ _ _) rfl) ?_
    refine X.opw (X.wG rfl rfl rfl) rfl (X.idxS hs Try.underlying25 Try.sizeOf5 rfl rfl ⟨by omega, by omega⟩) ?_
    refine X.opw (X.wG rfl rfl rfl) rfl (X.loadS Try.isAgg5 hs (j := 0) rfl rfl (fun _ h => by rw [h.1]; rfl)) ?_
    refine X.opP (X.wG rfl rfl rfl) rfl rfl (X.gtr rfl rfl) (fun h18 => ?_) (fun h18 => ?_)
    · refine X.opw X.wN rfl (X.pickF (v := .bool true) rfl rfl) ?_
      refine X.opsEnd ?_
      refine X.condT rfl ?_
      refine X.seq ?_
      refine X.region ?_
      refine X.opw X.wN rfl (X.assign rfl) ?_
      refine X.opw X.wN rfl (X.assign rfl) ?_
      refine X.opw X.wN rfl (X.assign rfl) ?_
      refine X.opsEnd ?_
      refine X.ret3 (v2 := (.int .i64 _)) (v3 := (.int .i64 _)) Try.func38 Try.results38 rfl rfl rfl ?_
      first
      | exact ⟨_, by rw [show l = [] from List.eq_nil_of_length_eq_zero (by omega)]; rfl, by rw [show l = [] from List.eq_nil_of_length_eq_zero (by omega)]; exact (Mine.nil _ _ _ _ _ _), (Keep.refl _)⟩
      | (have e : pTup (x0 :: ys0) = none := by rw [pTup, if_pos (by omega)]
         exact ⟨_, by rw [e]; rfl, by rw [e]; exact (Mine.nil _ _ _ _ _ _), (Keep.refl _)⟩)
      | (have e : pTup (x0 :: ys0) = none := by rw [pTup, if_neg (by omega), ← hp]; rfl
         exact ⟨_, by rw [e]; rfl, by rw [e]; exact (Mine.nil _ _ _ _ _ _), (Keep.refl _)⟩)
      | (have e : pTup (x0 :: ys0) = some (s, (x0 :: ys0).drop at_) := by rw [pTup, if_neg (by omega), ← hp, show x0.toNat - i = 0 by omega, pVals]; simp
         exact ⟨_, by rw [e]; simp only [cnt, code, Option.isSome_some, if_true]; rw [List.length_drop, show ((n : Nat) : Int) - (((x0 :: ys0).length - at_ : Nat) : Int) = (at_ : Int) by omega], by rw [e]; exact (Mine.nil _ _ _ _ _ _), (Keep.refl _)⟩)
    · refine X.opw X.wN rfl (X.pickF (v := .bool false) rfl rfl) ?_
      refine X.opsEnd ?_
      refine X.condF rfl ?_
      refine X.skip ?_
      refine X.seq ?_
      refine X.region ?_
      refine X.opw X.wN rfl (X.assign rfl) ?_
      refine X.opsEnd ?_
      refine X.seq ?_
      refine X.region ?_
      refine X.opw X.wN rfl (X.assign rfl) ?_
      refine X.opsEnd ?_
      refine X.seq ?_
      refine X.seq ?_
      refine X.region ?_
      refine X.opw X.wN rfl (X.assign rfl) ?_
      refine X.opsEnd ?_
      refine X.block ?_
      -- LOOP live: 0=b, 5=t*, 6=at*, 7=i*
      refine X.loopL (σ := Nat × Nat × Value × List VAL) (fun s => [(0, .slice A n c), (5, s.2.2.1), (6, .int .i64 (s.2.1 : Int)), (7, .int .i64 (s.1 : Int))]) (fun s w' => s.1 ≤ x0.toNat ∧ s.2.1 ≤ n ∧ s.2.2.2.length = s.1 ∧ (∀ u ∈ s.2.2.2, okV u) ∧ Mine KV 75 (fun k => w.heap.size ≤ k) 0 0 w' s.2.2.1 s.2.2.2 ∧ ((pVals (x0.toNat - s.1) ((x0 :: ys0).drop s.2.1)).map fun b => (s.2.2.2 ++ b.1, b.2)) = pVals x0.toNat ys0 ∧ Keep w w') (fun s => x0.toNat - s.1) (0, 1, _, []) ⟨rfl, rfl, rfl, rfl, trivial⟩ ⟨Nat.zero_le _, by dsimp only; omega, rfl, by simp, (Mine.nil _ _ _ _ _ _), by simp, (Keep.refl _)⟩ ?_
      rintro ⟨i, at_, v, s⟩ b wl ⟨hi0, hat, hsl, hso, hM, hp, hk⟩ hback
      dsimp only
      simp only at hi0 hat hsl hso hM hp
      have hk' := hk.size
      refine X.seq ?_
      refine X.seq ?_
      refine X.region ?_
      refine X.opw X.wN rfl (X.move (v := .int .i64 _) rfl) ?_
      refine X.opw X.wN rfl (X.move (v := .slice _ _ _) rfl) ?_
      refine X.opw X.wN rfl (X.idxS (hs.keep hk) Try.underlying25 Try.sizeOf5 rfl rfl ⟨by omega, by omega⟩) ?_
      refine X.opw X.wN rfl (X.loadS Try.isAgg5 (hs.keep hk) (j := 0) rfl rfl (fun _ h => by rw [h.1]; rfl)) ?_
      refine X.opw X.wN rfl (X.cvI Try.underlying5 Try.underlying3 rfl (X.w_i64 (by omega))) ?_
      refine X.opP X.wN rfl rfl (X.lss rfl rfl) (fun h25 => ?_) (fun h25 => ?_)
      · refine X.opsEnd ?_
        refine X.condT rfl ?_
        refine X.skip ?_
        refine X.seq ?_
        refine X.block ?_
        refine X.seq ?_
        refine X.region ?_
        refine X.opw X.wN rfl (X.move (v := .slice _ _ _) rfl) ?_
        refine X.opw X.wN rfl (X.move (v := .int .i64 _) rfl) ?_
        refine X.opw X.wN rfl (X.cutL Try.underlying25 Try.sizeOf5 rfl rfl (by omega)) ?_
        refine X.opE X.wN rfl (X.callE (takeOne_c _ ((hs.drop at_ c (by omega) (by omega)).keep hk) (by omega) (by omega)) Try.call60 rfl rfl) ?_
        rintro _ w1 ⟨⟨u1, kk1, rfl, hu1⟩, hk1⟩
        have hk1' := hk1.size
        refine X.opw X.wN rfl (X.move rfl) ?_
        refine X.opw X.wN rfl (X.extr rfl rfl) ?_
        refine X.opw X.wN rfl (X.extr rfl rfl) ?_
        refine X.opw X.wN rfl (X.extr rfl rfl) ?_
        refine X.opE X.wN rfl (X.allocE Try.zeroValue75 rfl) ?_
        rintro _ w2 ⟨rfl, hB2, hk2, hz2⟩
        refine X.opE X.wN rfl (X.storeNE Try.sizeOf75 hB2 rfl rfl rfl rfl (encV_one _)) ?_
        rintro _ w3 ⟨hB3, hx3, hz3⟩
        refine X.opw X.wN rfl (X.assign (v := .int .i64 _) rfl) ?_
        refine X.opw X.wN rfl (X.assign (v := .int .i64 _) rfl) ?_
        refine X.opsEnd ?_
        refine X.seq ?_
        refine X.seq ?_
        refine X.region ?_
        refine X.opw X.wN rfl (X.move (v := .int .i64 _) rfl) ?_
        refine X.opP X.wN rfl rfl (X.neI rfl rfl) (fun h37 => ?_) (fun h37 => ?_)
        · rw [show x0.toNat - i = (x0.toNat - (i + 1)) + 1 by omega, pVals, code_1 h37] at hp
          refine X.opsEnd ?_
          refine X.condT rfl ?_
          refine X.seq ?_
          refine X.region ?_
          refine X.opw X.wN rfl (X.assign rfl) ?_
          refine X.opw X.wN rfl (X.assign rfl) ?_
          refine X.opw X.wN rfl (X.assign rfl) ?_
          refine X.opsEnd ?_
          refine X.ret3 (v2 := (.int .i64 _)) (v3 := (.int .i64 _)) Try.func38 Try.results38 rfl rfl rfl ?_
          first
          | exact ⟨_, by rw [show l = [] from List.eq_nil_of_length_eq_zero (by omega)]; rfl, by rw [show l = [] from List.eq_nil_of_length_eq_zero (by omega)]; exact (Mine.nil _ _ _ _ _ _), (((hk.trans hk1).trans hk2).step hx3 (by intros; (try simp only [] at *); omega))⟩
          | (have e : pTup (x0 :: ys0) = none := by rw [pTup, if_pos (by omega)]
             exact ⟨_, by rw [e]; rfl, by rw [e]; exact (Mine.nil _ _ _ _ _ _), (((hk.trans hk1).trans hk2).step hx3 (by intros; (try simp only [] at *); omega))⟩)
          | (have e : pTup (x0 :: ys0) = none := by rw [pTup, if_neg (by omega), ← hp]; rfl
             exact ⟨_, by rw [e]; rfl, by rw [e]; exact (Mine.nil _ _ _ _ _ _), (((hk.trans hk1).trans hk2).step hx3 (by intros; (try simp only [] at *); omega))⟩)
          | (have e : pTup (x0 :: ys0) = some (s, (x0 :: ys0).drop at_) := by rw [pTup, if_neg (by omega), ← hp, show x0.toNat - i = 0 by omega, pVals]; simp
             exact ⟨_, by rw [e]; simp only [cnt, code, Option.isSome_some, if_true]; rw [List.length_drop, show ((n : Nat) : Int) - (((x0 :: ys0).length - at_ : Nat) : Int) = (at_ : Int) by omega], by rw [e]; exact (Mine.nil _ _ _ _ _ _), (((hk.trans hk1).trans hk2).step hx3 (by intros; (try simp only [] at *); omega))⟩)
        · obtain ⟨b0, hb0⟩ := code_0 h37
          obtain ⟨hub, hkb⟩ := hu1 b0 hb0
          obtain ⟨k0, hk1e, hk2e, hk3e, hk4e, hok⟩ := pVal_suffix hb0
          subst hub
          rw [hb0] at hkb
          simp only [cnt] at hkb
          have hdl : ((x0 :: ys0).drop at_).length = n - at_ := by rw [List.length_drop, hl]
          rw [show x0.toNat - i = (x0.toNat - (i + 1)) + 1 by omega, pVals, hb0] at hp
          dsimp only at hp
          rw [hk2e, List.drop_drop] at hp
          have hkk : kk1 = (k0 : Int) := by omega
          refine X.opsEnd ?_
          refine X.condF rfl ?_
          refine X.skip ?_
          refine X.seq ?_
          refine X.region ?_
          refine X.opw X.wN rfl (X.move rfl) ?_
          refine X.opw X.wN rfl (X.loadNB Try.isAgg75 Try.sizeOf75 hB3 rfl rfl rfl) ?_
          refine X.opE X.wN rfl (X.litKE (K := KV) (xs := [Operand.tmp 39]) (vs := [.agg (encV b0.1).toArray]) (ys := [b0.1]) Try.underlying23 Try.sizeOf75 Try.zeroValue75 rfl rfl rfl rfl rfl (litV_ok hok)) ?_
          rintro _ w4 ⟨rfl, hs4, hB4, hk4, hz4⟩
          refine X.opE X.wN rfl (X.appE (K := KV) (S := fun k => w.heap.size ≤ k) KV_flat Try.underlying23 EV rfl rfl (hM.keep (((hk1.trans hk2).step hx3 (by intros; (try simp only [] at *); omega)).trans hk4)) hs4 (by (try simp only [List.length_append, List.length_cons, List.length_nil, List.length_take, List.length_drop, List.length_map, List.length_range]); omega) (by intros; (try simp only [] at *); omega)) ?_
          rintro v5 w5 ⟨hM5, hx5⟩
          have hx5' := hx5.size
          refine X.opw X.wN rfl (X.assign rfl) ?_
          refine X.opsEnd ?_
          refine X.region ?_
          refine X.opw X.wN rfl (X.move (v := .int .i64 _) rfl) ?_
          refine X.opw X.wN rfl (X.move (v := .int .i64 _) rfl) ?_
          refine X.opw X.wN rfl (X.add (c := ((at_ + k0 : Nat) : Int)) rfl rfl (by rw [hkk, X.w_i64 (by omega)]; omega)) ?_
          refine X.opw X.wN rfl (X.assign (v := .int .i64 _) rfl) ?_
          refine X.opsEnd ?_
          refine X.inBlock ?_
          refine X.region ?_
          refine X.opw X.wN rfl (X.move (v := .int .i64 _) rfl) ?_
          refine X.opw X.wN rfl (X.add rfl rfl (X.w_i64 (by omega))) ?_
          refine X.opw X.wN rfl (X.assign (v := .int .i64 _) rfl) ?_
          refine X.opsEnd ?_
          refine hback (i + 1, at_ + k0, _, s ++ [b0.1]) _ _ ⟨rfl, rfl, rfl, rfl, trivial⟩ ⟨by dsimp only; omega, by dsimp only; omega, by simp only [List.length_append, List.length_cons, List.length_nil]; omega, by intro u hu; simp only [List.mem_append, List.mem_singleton] at hu; rcases hu with hu | rfl; exact hso u hu; exact hok, hM5, by dsimp only; rw [← hp, Option.map_map]; congr 1; funext b; simp, (((((hk.trans hk1).trans hk2).step hx3 (by intros; (try simp only [] at *); omega)).trans hk4).step hx5 (by intros; (try simp only [] at *); omega))⟩ (by dsimp only; omega)
      · refine X.opsEnd ?_
        refine X.condF rfl ?_
        refine X.exit rfl ?_
        refine X.seq ?_
        refine X.region ?_
        refine X.opw X.wN rfl (X.move rfl) ?_
        refine X.opw X.wN rfl (X.move (v := .int .i64 _) rfl) ?_
        refine X.opw X.wN rfl (X.assign rfl) ?_
        refine X.opw X.wN rfl (X.assign (v := .int .i64 _) rfl) ?_
        refine X.opw X.wN rfl (X.assign rfl) ?_
        refine X.opsEnd ?_
        refine X.ret3 (v2 := (.int .i64 _)) (v3 := (.int .i64 _)) Try.func38 Try.results38 rfl rfl rfl ?_
        first
        | exact ⟨_, by rw [show l = [] from List.eq_nil_of_length_eq_zero (by omega)]; rfl, by rw [show l = [] from List.eq_nil_of_length_eq_zero (by omega)]; exact hM, hk⟩
        | (have e : pTup (x0 :: ys0) = none := by rw [pTup, if_pos (by omega)]
           exact ⟨_, by rw [e]; rfl, by rw [e]; exact hM, hk⟩)
        | (have e : pTup (x0 :: ys0) = none := by rw [pTup, if_neg (by omega), ← hp]; rfl
           exact ⟨_, by rw [e]; rfl, by rw [e]; exact hM, hk⟩)
        | (have e : pTup (x0 :: ys0) = some (s, (x0 :: ys0).drop at_) := by rw [pTup, if_neg (by omega), ← hp, show x0.toNat - i = 0 by omega, pVals]; simp
           exact ⟨_, by rw [e]; simp only [cnt, code, Option.isSome_some, if_true]; rw [List.length_drop, show ((n : Nat) : Int) - (((x0 :: ys0).length - at_ : Nat) : Int) = (at_ : Int) by omega], by rw [e]; exact hM, hk⟩)
end Go.Proofs.Ytaclpphhidlgpaa
