/- Contracts of package pack and its reference: the bytes of tuples. -/
import Derived.Test.YtaclpphhidlgpaaPackC
import Derived.Test.YtaclpphhidlgpaaXRows
namespace Go.Proofs.Ytaclpphhidlgpaa
open Go Go.Proofs.Ytaclpphhidlgpaa.X
set_option linter.unusedVariables false
set_option linter.unusedSimpArgs false

theorem encV_one (x : VAL) : ∀ u, u ∈ encV x → u.oneCell' = true := fun u hu => by simp [encV] at hu; rcases hu with rfl | rfl | rfl <;> rfl
theorem EV : ElemInfo Try.prog 75 3 32 := ElemInfo.of (z := .agg #[.int .i64 0, .int .i64 0, .string ⟨#[]⟩]) (by kernel_rfl) rfl rfl rfl
/-- The bytes of a value, of a tuple. -/
def valB (v : VAL) : List UInt8 := if v.1 = 1 then 1 :: numB (zig v.2.1).toNat else 2 :: textB v.2.2.data.toList
def tupB (l : List VAL) : List UInt8 := UInt8.ofNat l.length :: l.flatMap valB
theorem sym_len (s : ByteArray) : s.data.toList.length = s.size := by rw [Array.length_toList]; rfl
theorem textB_len {l : List UInt8} (h : l.length ≤ 1000000) : (textB l).length ≤ 1000010 := by
  have := numB_10 (l.length : Int) (by omega)
  simp only [Int.toNat_natCast] at this
  rw [textB, List.length_append]; omega
theorem valB_len {v : VAL} (h : okV v) (hs : v.2.2.size ≤ 1000000) : (valB v).length ≤ 1000100 := by
  unfold valB
  split
  · have := numB_10 _ (zig_ok v.2.1 h.2.1).2
    simp; omega
  · have := textB_len (l := v.2.2.data.toList) (by rw [sym_len]; exact hs)
    simp; omega
theorem isV_size {v : VAL} (h : isV v = true) : v.2.2.size ≤ 256 := by
  simp only [isV, decide_eq_true_eq] at h
  rcases h with ⟨_, h⟩ | ⟨_, _, h⟩
  · rw [h]; decide
  · exact h
-- f44 "pedigree/pedigreeref03.one" params [75] results [25] -> [(ResultVar.tmp 2)] nfree 0 ntmps 17 names ["v
theorem one_c (v : VAL) (h : okV v) (hsz : v.2.2.size ≤ 1000000) (w : World) : Ret Try.prog 44 #[.agg (encV v).toArray] w fun r w' => FreshB w w' r (valB v) := by
  have hN := h.2.1
  have hz := numB_10 _ (zig_ok v.2.1 h.2.1).2
  have ht := textB_len (l := v.2.2.data.toList) (by rw [sym_len]; exact hsz)
  refine X.enter Try.func44 rfl Try.ntmps44 rfl ?_
  refine X.seq ?_
  refine X.region ?_
  refine X.opE X.wN rfl (X.boxE rfl rfl) ?_
  rintro _ w1 ⟨rfl, hB1, hk1, hz1⟩
  refine X.opw X.wN rfl (X.assign rfl) ?_
  refine X.opsEnd ?_
  refine X.seq ?_
  refine X.seq ?_
  refine X.region ?_
  refine X.opw X.wN rfl (X.fldB (j := 0) Try.underlying75 rfl rfl Try.sizeOf73 rfl) ?_
  refine X.opw X.wN rfl (X.load1B Try.isAgg73 hB1 rfl rfl) ?_
  refine X.opP X.wN rfl rfl (X.eqI rfl rfl) (fun h5 => ?_) (fun h5 => ?_)
  · refine X.opsEnd ?_
    refine X.condT rfl ?_
    refine X.seq ?_
    refine X.region ?_
    refine X.opE X.wN rfl (X.lit1B (y := 1) Try.underlying25 Try.sizeOf5 Try.zeroValue5 rfl) ?_
    rintro _ w2 ⟨rfl, hs2, hB2, hk2, hz2⟩
    refine X.opw X.wN rfl (X.fldB (j := 1) Try.underlying75 rfl rfl Try.sizeOf2 rfl) ?_
    refine X.opw X.wN rfl (X.load1B Try.isAgg2 (hB1.keep hk2) rfl rfl) ?_
    refine X.opE X.wN rfl (X.callE (RInt_c _ hN _) Try.call27 rfl rfl) ?_
    rintro v3 w3 ⟨hM3, hk3⟩
    have hk3' := hk3.size
    obtain ⟨A4, c4, rfl, hc4, hs4⟩ := hM3.slF KB_flat 0 (fun _ _ => Nat.zero_le _)
    refine X.opE X.wN rfl (X.appE (K := KB) (S := fun k => w.heap.size ≤ k) KB_flat Try.underlying25 E5 rfl rfl ((Mine.litB hB2 (by intros; (try simp only [] at *); omega)).keep hk3) hs4 (by (try simp only [List.length_append, List.length_cons, List.length_nil, List.length_take, List.length_drop, List.length_map, List.length_range]); omega) (by intros; (try simp only [] at *); omega)) ?_
    rintro v5 w5 ⟨hM5, hx5⟩
    have hx5' := hx5.size
    refine X.opw X.wN rfl (X.assign rfl) ?_
    refine X.opsEnd ?_
    refine X.ret1 Try.func44 Try.results44 rfl ?_
    exact ⟨by rw [valB, if_pos h5]; exact hM5, (((hk1.trans hk2).trans hk3).step hx5 (by intros; (try simp only [] at *); omega))⟩
  · refine X.opsEnd ?_
    refine X.condF rfl ?_
    refine X.skip ?_
    refine X.seq ?_
    refine X.region ?_
    refine X.opE X.wN rfl (X.lit1B (y := 2) Try.underlying25 Try.sizeOf5 Try.zeroValue5 rfl) ?_
    rintro _ w6 ⟨rfl, hs6, hB6, hk6, hz6⟩
    refine X.opw X.wN rfl (X.fldB (j := 2) Try.underlying75 rfl rfl Try.sizeOf9 rfl) ?_
    refine X.opw X.wN rfl (X.load1B Try.isAgg9 (hB1.keep hk6) rfl rfl) ?_
    refine X.opE X.wN rfl (X.bytesE (K := KB) Try.underlying9 Try.underlying25 Try.underlying5 rfl (by omega) rfl KB_R) ?_
    rintro _ w7 ⟨c7, rfl, hc7, hs7, hk7, hz7⟩
    refine X.opE X.wN rfl (X.callE (RText_c _ hs7 (by omega)) Try.call28 rfl rfl) ?_
    rintro v8 w8 ⟨hM8, hk8⟩
    have hk8' := hk8.size
    obtain ⟨A9, c9, rfl, hc9, hs9⟩ := hM8.slF KB_flat 0 (fun _ _ => Nat.zero_le _)
    refine X.opE X.wN rfl (X.appE (K := KB) (S := fun k => w.heap.size ≤ k) KB_flat Try.underlying25 E5 rfl rfl ((Mine.litB hB6 (by intros; (try simp only [] at *); omega)).keep (hk7.trans hk8)) hs9 (by (try simp only [List.length_append, List.length_cons, List.length_nil, List.length_take, List.length_drop, List.length_map, List.length_range]); omega) (by intros; (try simp only [] at *); omega)) ?_
    rintro v10 w10 ⟨hM10, hx10⟩
    have hx10' := hx10.size
    refine X.opw X.wN rfl (X.assign rfl) ?_
    refine X.opsEnd ?_
    refine X.ret1 Try.func44 Try.results44 rfl ?_
    exact ⟨by rw [valB, if_neg h5]; exact hM10, ((((hk1.trans hk6).trans hk7).trans hk8).step hx10 (by intros; (try simp only [] at *); omega))⟩
theorem flat_step {α β : Type} {l : List α} {i : Nat} {x : α} (f : α → List β) (hx : l[i]? = some x) : (l.take (i + 1)).flatMap f = (l.take i).flatMap f ++ f x := by
  rw [List.take_add_one, hx]; simp
theorem isT_at {l : List VAL} (h : isT l = true) {i : Nat} {x : VAL} (hx : l[i]? = some x) : isV x = true := by
  simp only [isT, Bool.and_eq_true, List.all_eq_true] at h
  exact h.1 x (List.mem_of_getElem? hx)
theorem isT_len {l : List VAL} (h : isT l = true) : l.length ≤ 8 := by
  simp only [isT, Bool.and_eq_true, decide_eq_true_eq] at h
  exact h.2
theorem flat_len {l : List VAL} (hT : isT l = true) (hok : ∀ (i : Nat) (x : VAL), l[i]? = some x → okV x) : ∀ i, i ≤ l.length → ((l.take i).flatMap valB).length ≤ i * 1000100 := by
  intro i
  induction i with
  | zero => intro _; simp
  | succ i ih =>
    intro h
    have hx : l[i]? = some l[i] := List.getElem?_eq_getElem (by omega)
    have h1 := ih (by omega)
    have h2 := valB_len (hok i _ hx) (Nat.le_trans (isV_size (isT_at hT hx)) (by omega))
    rw [flat_step valB hx, List.length_append]
    omega
-- f19 "pedigree/pack.Tuple" params [23] results [25, 26] -> [(ResultVar.tmp 2), (ResultVar.tmp 3)] nfree 0 nt
theorem Tuple_c {lo hi : Nat} {A : Option Addr} {n c : Nat} {l : List VAL} (w : World) (hs : Sl KV lo hi w A n l) (hhi : hi ≤ w.heap.size) : Ret Try.prog 19 #[.slice A n c] w fun r w' => ∃ v, r = .tuple #[v, .int .i64 (if isT l then 0 else 20)] ∧ FreshB w w' v (if isT l then tupB l else []) := by
  have hn := hs.bound
  have hl := hs.len
  refine X.enter Try.func19 rfl Try.ntmps19 rfl ?_
  refine X.seq ?_
  refine X.region ?_
  refine X.opw X.wN rfl (X.assign rfl) ?_
  refine X.opw X.wN rfl (X.assign rfl) ?_
  refine X.opsEnd ?_
  refine X.seq ?_
  refine X.seq ?_
  refine X.region ?_
  refine X.opw X.wN rfl (X.move (v := .slice _ _ _) rfl) ?_
  refine X.opE X.wN rfl (X.callE (may_c _ hs) Try.call41 rfl rfl) ?_
  rintro _ w1 ⟨rfl, hk1⟩
  have hk1' := hk1.size
  refine X.opw X.wN rfl (X.not_ rfl) ?_
  refine X.opsEnd ?_
  refine X.condB rfl (fun hc => ?_) (fun hc => ?_)
  · refine X.seq ?_
    refine X.region ?_
    refine X.opw X.wN rfl (X.assign rfl) ?_
    refine X.opw X.wN rfl (X.assign rfl) ?_
    refine X.opsEnd ?_
    refine X.ret2 (v2 := (.int .i64 _)) Try.func19 Try.results19 rfl rfl ?_
    rw [if_neg (by simpa using hc), if_neg (by simpa using hc)]
    exact ⟨_, rfl, (Mine.nil _ _ _ _ _ _), hk1⟩
  · have hT : isT l = true := by simpa using hc
    refine X.skip ?_
    refine X.seq ?_
    refine X.region ?_
    refine X.opw X.wN rfl (X.move (v := .slice _ _ _) rfl) ?_
    refine X.opw X.wN rfl (X.lenSl Try.underlying23 rfl) ?_
    refine X.opw X.wN rfl (X.cvI Try.underlying3 Try.underlying5 rfl (u8_of _ (by omega))) ?_
    refine X.opE X.wN rfl (X.lit1B Try.underlying25 Try.sizeOf5 Try.zeroValue5 rfl) ?_
    rintro _ w2 ⟨rfl, hs2, hB2, hk2, hz2⟩
    refine X.opw X.wN rfl (X.assign rfl) ?_
    refine X.opsEnd ?_
    refine X.seq ?_
    refine X.seq ?_
    refine X.region ?_
    refine X.opw X.wN rfl (X.move (v := .slice _ _ _) rfl) ?_
    refine X.opw X.wN rfl (X.lenSl Try.underlying23 rfl) ?_
    refine X.opw X.wN rfl (X.move rfl) ?_
    refine X.opsEnd ?_
    refine X.block ?_
    -- LOOP live: 4=b*, 14, 15, 16*
    refine X.loopL (σ := Nat × Value) (fun s => [(4, s.2), (14, .slice A n c), (15, .int .i64 (n : Int)), (16, .int .i64 (s.1 : Int))]) (fun s w' => s.1 ≤ n ∧ Mine KB 5 (fun k => w.heap.size ≤ k) 0 0 w' s.2 (UInt8.ofNat n :: (l.take s.1).flatMap valB) ∧ Keep w w') (fun s => n - s.1) (0, _) ⟨rfl, rfl, rfl, rfl, trivial⟩ ⟨Nat.zero_le _, (Mine.litB hB2 (by intros; (try simp only [] at *); omega)), (hk1.trans hk2)⟩ ?_
    rintro ⟨i, v⟩ b w1 ⟨hi0, hM, hk⟩ hback
    simp only at hi0 hM
    have hk' := hk.size
    have hlen := flat_len hT (fun i x hx => KV_ok hs i x hx) i (by omega)
    have hn8 := isT_len hT
    refine X.seq ?_
    refine X.region ?_
    refine X.opP X.wN rfl rfl (X.lss rfl rfl) (fun h17 => ?_) (fun h17 => ?_)
    · obtain ⟨x, hx⟩ := getN i hl h17
      have hV := KV_ok hs i x hx
      have hN := hV.2.1
      have hsz := isV_size (isT_at hT hx)
      have hz := numB_10 _ (zig_ok x.2.1 hN).2
      have ht := textB_len (l := x.2.2.data.toList) (by rw [sym_len]; omega)
      have hsl := sym_len x.2.2
      have hvl := valB_len hV (by omega)
      refine X.opsEnd ?_
      refine X.seq ?_
      refine X.condT rfl ?_
      refine X.skip ?_
      refine X.seq ?_
      refine X.block ?_
      refine X.seq ?_
      refine X.region ?_
      refine X.opw X.wN rfl (X.idxS (hs.keep hk) Try.underlying23 Try.sizeOf75 rfl rfl ⟨by omega, by omega⟩) ?_
      refine X.opw X.wN rfl (X.loadSN Try.isAgg75 Try.sizeOf75 (hs.keep hk) hx rfl (fun _ h => h.1) rfl) ?_
      refine X.opE X.wN rfl (X.allocE Try.zeroValue75 rfl) ?_
      rintro _ w3 ⟨rfl, hB3, hk3, hz3⟩
      refine X.opE X.wN rfl (X.storeNE Try.sizeOf75 hB3 rfl rfl rfl rfl (encV_one _)) ?_
      rintro _ w4 ⟨hB4, hx4, hz4⟩
      refine X.opsEnd ?_
      refine X.seq ?_
      refine X.region ?_
      refine X.opw X.wN rfl (X.fldB (j := 0) Try.underlying75 rfl rfl Try.sizeOf73 rfl) ?_
      refine X.opw X.wN rfl (X.load1B Try.isAgg73 hB4 rfl rfl) ?_
      refine X.opsEnd ?_
      refine X.block ?_
      refine X.seq ?_
      refine X.region ?_
      refine X.opP X.wN rfl rfl (X.eqI rfl rfl) (fun h31 => ?_) (fun h31 => ?_)
      · have hM6 := Mine.mono (T := fun k => w.heap.size ≤ k ∧ k ≠ w1.heap.size) hM (fun k h1 h2 => ⟨h2, by omega⟩)
        replace hM6 := (hM6.keep (hk3.step hx4 (by intros; (try simp only [] at *); omega)))
        refine X.opw X.wN rfl (X.assign (v := .bool true) rfl) ?_
        refine X.opsEnd ?_
        refine X.condT rfl ?_
        refine X.regionD (fun k => w.heap.size ≤ k ∧ k ≠ w1.heap.size) 7 (by kernel_rfl) (by kernel_rfl) (fun w5 hk5 hz5 => ?_)
        refine X.dTake 0 rfl (by kernel_rfl) (by kernel_rfl) (by kernel_rfl) (X.dwN rfl) (fun w' hk' => X.move rfl) ?_
        refine X.dTake 3 rfl (by kernel_rfl) (by kernel_rfl) (by kernel_rfl) (X.dwN rfl) (fun w' hk' => X.fldB (j := 1) Try.underlying75 rfl rfl Try.sizeOf2 rfl) ?_
        refine X.dTake 4 rfl (by kernel_rfl) (by kernel_rfl) (by kernel_rfl) (X.dwN rfl) (fun w' hk' => X.load1B Try.isAgg2 ((hB4.keep hk5).ext hk' (by intros; (try simp only []); omega)) rfl rfl) ?_
        refine X.dE (i := 1) (by kernel_rfl) rfl (X.dwN rfl) (X.lit1B (y := 1) Try.underlying25 Try.sizeOf5 Try.zeroValue5 rfl) (by rintro _ w6 ⟨rfl, hs6, hB6, hk6, hz6⟩ _; exact hk6.mono (fun _ _ h => h.elim)) ?_
        rintro _ w6 ⟨rfl, hs6, hB6, hk6, hz6⟩
        refine X.dE (i := 2) (by kernel_rfl) rfl (X.dwN rfl) (X.appE (K := KB) (S := fun k => w.heap.size ≤ k ∧ k ≠ w1.heap.size) KB_flat Try.underlying25 E5 rfl rfl (hM6.keep (hk5.trans hk6)) hs6 (by (try simp only [List.length_append, List.length_cons, List.length_nil, List.length_take, List.length_drop, List.length_map, List.length_range]); omega) (by intros; (try simp only [] at *); omega)) (by rintro v7 w7 ⟨hM7, hx7⟩ _; exact hx7) ?_
        rintro v7 w7 ⟨hM7, hx7⟩
        have hx7' := hx7.size
        refine X.dE (i := 5) (by kernel_rfl) rfl (X.dwN rfl) (X.callE (Int_c _ hN _) Try.call26 rfl rfl) (by rintro v8 w8 ⟨hM8, hk8⟩ _; exact hk8.mono (fun _ _ h => h.elim)) ?_
        rintro v8 w8 ⟨hM8, hk8⟩
        have hk8' := hk8.size
        obtain ⟨A9, c9, rfl, hc9, hs9⟩ := hM8.slF KB_flat 0 (fun _ _ => Nat.zero_le _)
        refine X.dE (i := 6) (by kernel_rfl) rfl (X.dwN rfl) (X.appE (K := KB) (S := fun k => w.heap.size ≤ k ∧ k ≠ w1.heap.size) KB_flat Try.underlying25 E5 rfl rfl (hM7.keep hk8) hs9 (by (try simp only [List.length_append, List.length_cons, List.length_nil, List.length_take, List.length_drop, List.length_map, List.length_range]); omega) (by intros; (try simp only [] at *); omega)) (by rintro v10 w10 ⟨hM10, hx10⟩ _; exact hx10) ?_
        rintro v10 w10 ⟨hM10, hx10⟩
        have hx10' := hx10.size
        refine X.dStep (i := 7) (by kernel_rfl) rfl (X.dwN rfl) (X.assign rfl) (fun h => absurd h (by decide)) ?_
        refine X.dEnd (by kernel_rfl) ?_
        refine X.inBlock ?_
        refine X.inBlock ?_
        refine X.region ?_
        refine X.opw X.wN rfl (X.add rfl rfl (X.w_i64 (by omega))) ?_
        refine X.opw X.wN rfl (X.move (v := .int .i64 _) rfl) ?_
        refine X.opsEnd ?_
        refine hback (i + 1, _) _ _ ⟨rfl, rfl, rfl, rfl, trivial⟩ ⟨by simp only []; omega, ?_, (((((((hk.trans hk3).step hx4 (by intros; (try simp only [] at *); omega)).trans hk5).trans hk6).step hx7 (by intros; (try simp only [] at *); omega)).trans hk8).step hx10 (by intros; (try simp only [] at *); omega))⟩ (by simp only []; omega)
        have e := hM10.mono (T := fun k => w.heap.size ≤ k) (fun k _ h => h.1)
        simp only []
        rw [flat_step valB hx, valB, if_pos h31]
        simpa only [List.cons_append, List.append_assoc, List.singleton_append, List.nil_append, List.append_nil] using e
      · have hM6 := Mine.mono (T := fun k => w.heap.size ≤ k ∧ k ≠ w1.heap.size) hM (fun k h1 h2 => ⟨h2, by omega⟩)
        replace hM6 := (hM6.keep (hk3.step hx4 (by intros; (try simp only [] at *); omega)))
        refine X.opw X.wN rfl (X.assign (v := .bool false) rfl) ?_
        refine X.opsEnd ?_
        refine X.condF rfl ?_
        refine X.regionD (fun k => w.heap.size ≤ k ∧ k ≠ w1.heap.size) 8 (by kernel_rfl) (by kernel_rfl) (fun w11 hk11 hz11 => ?_)
        refine X.dTake 0 rfl (by kernel_rfl) (by kernel_rfl) (by kernel_rfl) (X.dwN rfl) (fun w' hk' => X.move rfl) ?_
        refine X.dTake 3 rfl (by kernel_rfl) (by kernel_rfl) (by kernel_rfl) (X.dwN rfl) (fun w' hk' => X.fldB (j := 2) Try.underlying75 rfl rfl Try.sizeOf9 rfl) ?_
        refine X.dTake 4 rfl (by kernel_rfl) (by kernel_rfl) (by kernel_rfl) (X.dwN rfl) (fun w' hk' => X.load1B Try.isAgg9 ((hB4.keep hk11).ext hk' (by intros; (try simp only []); omega)) rfl rfl) ?_
        refine X.dTwo (i := 1) (j := 5) (by kernel_rfl) ?_ ?_
        · refine X.d1E (i := 1) rfl (X.dwN rfl) (X.lit1B (y := 2) Try.underlying25 Try.sizeOf5 Try.zeroValue5 rfl) (by rintro _ w12 ⟨rfl, hs12, hB12, hk12, hz12⟩ _; exact hk12.mono (fun _ _ h => h.elim)) ?_
          rintro _ w12 ⟨rfl, hs12, hB12, hk12, hz12⟩
          refine X.dTwo (i := 2) (j := 5) (by kernel_rfl) ?_ ?_
          · refine X.d1E (i := 2) rfl (X.dwN rfl) (X.appE (K := KB) (S := fun k => w.heap.size ≤ k ∧ k ≠ w1.heap.size) KB_flat Try.underlying25 E5 rfl rfl (hM6.keep (hk11.trans hk12)) hs12 (by (try simp only [List.length_append, List.length_cons, List.length_nil, List.length_take, List.length_drop, List.length_map, List.length_range]); omega) (by intros; (try simp only [] at *); omega)) (by rintro v13 w13 ⟨hM13, hx13⟩ _; exact hx13) ?_
            rintro v13 w13 ⟨hM13, hx13⟩
            have hx13' := hx13.size
            refine X.dE (i := 5) (by kernel_rfl) rfl (X.dwN rfl) (X.bytesE (K := KB) Try.underlying9 Try.underlying25 Try.underlying5 rfl (by omega) rfl KB_R) (by rintro _ w14 ⟨c14, rfl, hc14, hs14, hk14, hz14⟩ _; exact hk14.mono (fun _ _ h => h.elim)) ?_
            rintro _ w14 ⟨c14, rfl, hc14, hs14, hk14, hz14⟩
            refine X.dE (i := 6) (by kernel_rfl) rfl (X.dwN rfl) (X.callE (Text_c _ hs14 (by omega)) Try.call18 rfl rfl) (by rintro v15 w15 ⟨hM15, hk15⟩ _; exact hk15.mono (fun _ _ h => h.elim)) ?_
            rintro v15 w15 ⟨hM15, hk15⟩
            have hk15' := hk15.size
            obtain ⟨A16, c16, rfl, hc16, hs16⟩ := hM15.slF KB_flat 0 (fun _ _ => Nat.zero_le _)
            refine X.dE (i := 7) (by kernel_rfl) rfl (X.dwN rfl) (X.appE (K := KB) (S := fun k => w.heap.size ≤ k ∧ k ≠ w1.heap.size) KB_flat Try.underlying25 E5 rfl rfl (hM13.keep (hk14.trans hk15)) hs16 (by (try simp only [List.length_append, List.length_cons, List.length_nil, List.length_take, List.length_drop, List.length_map, List.length_range]); omega) (by intros; (try simp only [] at *); omega)) (by rintro v17 w17 ⟨hM17, hx17⟩ _; exact hx17) ?_
            rintro v17 w17 ⟨hM17, hx17⟩
            have hx17' := hx17.size
            refine X.dStep (i := 8) (by kernel_rfl) rfl (X.dwN rfl) (X.assign rfl) (fun h => absurd h (by decide)) ?_
            refine X.dEnd (by kernel_rfl) ?_
            refine X.inBlock ?_
            refine X.inBlock ?_
            refine X.region ?_
            refine X.opw X.wN rfl (X.add rfl rfl (X.w_i64 (by omega))) ?_
            refine X.opw X.wN rfl (X.move (v := .int .i64 _) rfl) ?_
            refine X.opsEnd ?_
            refine hback (i + 1, _) _ _ ⟨rfl, rfl, rfl, rfl, trivial⟩ ⟨by simp only []; omega, ?_, ((((((((hk.trans hk3).step hx4 (by intros; (try simp only [] at *); omega)).trans hk11).trans hk12).step hx13 (by intros; (try simp only [] at *); omega)).trans hk14).trans hk15).step hx17 (by intros; (try simp only [] at *); omega))⟩ (by simp only []; omega)
            have e := hM17.mono (T := fun k => w.heap.size ≤ k) (fun k _ h => h.1)
            simp only []
            rw [flat_step valB hx, valB, if_neg h31]
            simpa only [List.cons_append, List.append_assoc, List.singleton_append, List.nil_append, List.append_nil] using e
          · refine X.d1E (i := 5) rfl (X.dwN rfl) (X.bytesE (K := KB) Try.underlying9 Try.underlying25 Try.underlying5 rfl (by omega) rfl KB_R) (by rintro _ w18 ⟨c18, rfl, hc18, hs18, hk18, hz18⟩ _; exact hk18.mono (fun _ _ h => h.elim)) ?_
            rintro _ w18 ⟨c18, rfl, hc18, hs18, hk18, hz18⟩
            refine X.dE (i := 2) (by kernel_rfl) rfl (X.dwN rfl) (X.appE (K := KB) (S := fun k => w.heap.size ≤ k ∧ k ≠ w1.heap.size ∧ k ≠ w12.heap.size) KB_flat Try.underlying25 E5 rfl rfl ((Mine.mono (T := fun k => w.heap.size ≤ k ∧ k ≠ w1.heap.size ∧ k ≠ w12.heap.size) (hM6.keep (hk11.trans hk12)) (fun k h1 h2 => by (try simp only [] at *); omega)).keep hk18) (hs12.keep hk18) (by (try simp only [List.length_append, List.length_cons, List.length_nil, List.length_take, List.length_drop, List.length_map, List.length_range]); omega) (by intros; (try simp only [] at *); omega)) (by rintro v19 w19 ⟨hM19, hx19⟩ _; exact hx19.mono (fun k _ h => by (try simp only [] at *); omega)) ?_
            rintro v19 w19 ⟨hM19, hx19⟩
            replace hM19 := Mine.mono (T := fun k => w.heap.size ≤ k ∧ k ≠ w1.heap.size) hM19 (fun k _ h => by (try simp only [] at *); omega)
            have hx19' := hx19.size
            refine X.dE (i := 6) (by kernel_rfl) rfl (X.dwN rfl) (X.callE (Text_c _ (hs18.ext hx19 (by intros; (try simp only []); omega)) (by omega)) Try.call18 rfl rfl) (by rintro v20 w20 ⟨hM20, hk20⟩ _; exact hk20.mono (fun _ _ h => h.elim)) ?_
            rintro v20 w20 ⟨hM20, hk20⟩
            have hk20' := hk20.size
            obtain ⟨A21, c21, rfl, hc21, hs21⟩ := hM20.slF KB_flat 0 (fun _ _ => Nat.zero_le _)
            refine X.dE (i := 7) (by kernel_rfl) rfl (X.dwN rfl) (X.appE (K := KB) (S := fun k => w.heap.size ≤ k ∧ k ≠ w1.heap.size) KB_flat Try.underlying25 E5 rfl rfl (hM19.keep hk20) hs21 (by (try simp only [List.length_append, List.length_cons, List.length_nil, List.length_take, List.length_drop, List.length_map, List.length_range]); omega) (by intros; (try simp only [] at *); omega)) (by rintro v22 w22 ⟨hM22, hx22⟩ _; exact hx22) ?_
            rintro v22 w22 ⟨hM22, hx22⟩
            have hx22' := hx22.size
            refine X.dStep (i := 8) (by kernel_rfl) rfl (X.dwN rfl) (X.assign rfl) (fun h => absurd h (by decide)) ?_
            refine X.dEnd (by kernel_rfl) ?_
            refine X.inBlock ?_
            refine X.inBlock ?_
            refine X.region ?_
            refine X.opw X.wN rfl (X.add rfl rfl (X.w_i64 (by omega))) ?_
            refine X.opw X.wN rfl (X.move (v := .int .i64 _) rfl) ?_
            refine X.opsEnd ?_
            refine hback (i + 1, _) _ _ ⟨rfl, rfl, rfl, rfl, trivial⟩ ⟨by simp only []; omega, ?_, ((((((((hk.trans hk3).step hx4 (by intros; (try simp only [] at *); omega)).trans hk11).trans hk12).trans hk18).step hx19 (by intros; (try simp only [] at *); omega)).trans hk20).step hx22 (by intros; (try simp only [] at *); omega))⟩ (by simp only []; omega)
            have e := hM22.mono (T := fun k => w.heap.size ≤ k) (fun k _ h => h.1)
            simp only []
            rw [flat_step valB hx, valB, if_neg h31]
            simpa only [List.cons_append, List.append_assoc, List.singleton_append, List.nil_append, List.append_nil] using e
        · refine X.d1E (i := 5) rfl (X.dwN rfl) (X.bytesE (K := KB) Try.underlying9 Try.underlying25 Try.underlying5 rfl (by omega) rfl KB_R) (by rintro _ w23 ⟨c23, rfl, hc23, hs23, hk23, hz23⟩ _; exact hk23.mono (fun _ _ h => h.elim)) ?_
          rintro _ w23 ⟨c23, rfl, hc23, hs23, hk23, hz23⟩
          refine X.dE (i := 1) (by kernel_rfl) rfl (X.dwN rfl) (X.lit1B (y := 2) Try.underlying25 Try.sizeOf5 Try.zeroValue5 rfl) (by rintro _ w24 ⟨rfl, hs24, hB24, hk24, hz24⟩ _; exact hk24.mono (fun _ _ h => h.elim)) ?_
          rintro _ w24 ⟨rfl, hs24, hB24, hk24, hz24⟩
          refine X.dE (i := 2) (by kernel_rfl) rfl (X.dwN rfl) (X.appE (K := KB) (S := fun k => w.heap.size ≤ k ∧ k ≠ w1.heap.size ∧ k ≠ w11.heap.size) KB_flat Try.underlying25 E5 rfl rfl ((Mine.mono (T := fun k => w.heap.size ≤ k ∧ k ≠ w1.heap.size ∧ k ≠ w11.heap.size) (hM6.keep hk11) (fun k h1 h2 => by (try simp only [] at *); omega)).keep (hk23.trans hk24)) hs24 (by (try simp only [List.length_append, List.length_cons, List.length_nil, List.length_take, List.length_drop, List.length_map, List.length_range]); omega) (by intros; (try simp only [] at *); omega)) (by rintro v25 w25 ⟨hM25, hx25⟩ _; exact hx25.mono (fun k _ h => by (try simp only [] at *); omega)) ?_
          rintro v25 w25 ⟨hM25, hx25⟩
          replace hM25 := Mine.mono (T := fun k => w.heap.size ≤ k ∧ k ≠ w1.heap.size) hM25 (fun k _ h => by (try simp only [] at *); omega)
          have hx25' := hx25.size
          refine X.dE (i := 6) (by kernel_rfl) rfl (X.dwN rfl) (X.callE (Text_c _ ((hs23.keep hk24).ext hx25 (by intros; (try simp only []); omega)) (by omega)) Try.call18 rfl rfl) (by rintro v26 w26 ⟨hM26, hk26⟩ _; exact hk26.mono (fun _ _ h => h.elim)) ?_
          rintro v26 w26 ⟨hM26, hk26⟩
          have hk26' := hk26.size
          obtain ⟨A27, c27, rfl, hc27, hs27⟩ := hM26.slF KB_flat 0 (fun _ _ => Nat.zero_le _)
          refine X.dE (i := 7) (by kernel_rfl) rfl (X.dwN rfl) (X.appE (K := KB) (S := fun k => w.heap.size ≤ k ∧ k ≠ w1.heap.size) KB_flat Try.underlying25 E5 rfl rfl (hM25.keep hk26) hs27 (by (try simp only [List.length_append, List.length_cons, List.length_nil, List.length_take, List.length_drop, List.length_map, List.length_range]); omega) (by intros; (try simp only [] at *); omega)) (by rintro v28 w28 ⟨hM28, hx28⟩ _; exact hx28) ?_
          rintro v28 w28 ⟨hM28, hx28⟩
          have hx28' := hx28.size
          refine X.dStep (i := 8) (by kernel_rfl) rfl (X.dwN rfl) (X.assign rfl) (fun h => absurd h (by decide)) ?_
          refine X.dEnd (by kernel_rfl) ?_
          refine X.inBlock ?_
          refine X.inBlock ?_
          refine X.region ?_
          refine X.opw X.wN rfl (X.add rfl rfl (X.w_i64 (by omega))) ?_
          refine X.opw X.wN rfl (X.move (v := .int .i64 _) rfl) ?_
          refine X.opsEnd ?_
          refine hback (i + 1, _) _ _ ⟨rfl, rfl, rfl, rfl, trivial⟩ ⟨by simp only []; omega, ?_, ((((((((hk.trans hk3).step hx4 (by intros; (try simp only [] at *); omega)).trans hk11).trans hk23).trans hk24).step hx25 (by intros; (try simp only [] at *); omega)).trans hk26).step hx28 (by intros; (try simp only [] at *); omega))⟩ (by simp only []; omega)
          have e := hM28.mono (T := fun k => w.heap.size ≤ k) (fun k _ h => h.1)
          simp only []
          rw [flat_step valB hx, valB, if_neg h31]
          simpa only [List.cons_append, List.append_assoc, List.singleton_append, List.nil_append, List.append_nil] using e
    · refine X.opsEnd ?_
      refine X.seq ?_
      refine X.condF rfl ?_
      refine X.exit rfl ?_
      refine X.seq ?_
      refine X.region ?_
      refine X.opw X.wN rfl (X.move rfl) ?_
      refine X.opw X.wN rfl (X.assign rfl) ?_
      refine X.opw X.wN rfl (X.assign rfl) ?_
      refine X.opsEnd ?_
      refine X.ret2 (v2 := (.int .i64 _)) Try.func19 Try.results19 rfl rfl ?_
      have e := hM
      rw [show i = l.length by omega, List.take_length] at e
      refine ⟨_, by rw [if_pos hT], ?_, hk⟩
      rw [if_pos hT, tupB, hl]
      exact e
-- f21 "pedigree/pedigreeref03.Tuple" params [23] results [25, 3] -> [(ResultVar.tmp 2), (ResultVar.tmp 3)] nf
theorem RTuple_c {lo hi : Nat} {A : Option Addr} {n c : Nat} {l : List VAL} (w : World) (hs : Sl KV lo hi w A n l) (hhi : hi ≤ w.heap.size) : Ret Try.prog 21 #[.slice A n c] w fun r w' => ∃ v, r = .tuple #[v, .int .i64 (if isT l then 0 else 20)] ∧ FreshB w w' v (if isT l then tupB l else []) := by
  have hn := hs.bound
  have hl := hs.len
  refine X.enter Try.func21 rfl Try.ntmps21 rfl ?_
  refine X.seq ?_
  refine X.region ?_
  refine X.opw X.wN rfl (X.assign rfl) ?_
  refine X.opw X.wN rfl (X.assign rfl) ?_
  refine X.opsEnd ?_
  refine X.seq ?_
  refine X.seq ?_
  refine X.region ?_
  refine X.opw X.wN rfl (X.move (v := .slice _ _ _) rfl) ?_
  refine X.opE X.wN rfl (X.callE (R03Is_c _ hs) Try.call12 rfl rfl) ?_
  rintro _ w1 ⟨rfl, hk1⟩
  have hk1' := hk1.size
  refine X.opw X.wN rfl (X.not_ rfl) ?_
  refine X.opsEnd ?_
  refine X.condB rfl (fun hc => ?_) (fun hc => ?_)
  · refine X.seq ?_
    refine X.region ?_
    refine X.opw X.wN rfl (X.assign rfl) ?_
    refine X.opw X.wN rfl (X.assign rfl) ?_
    refine X.opsEnd ?_
    refine X.ret2 (v2 := (.int .i64 _)) Try.func21 Try.results21 rfl rfl ?_
    rw [if_neg (by simpa using hc), if_neg (by simpa using hc)]
    exact ⟨_, rfl, (Mine.nil _ _ _ _ _ _), hk1⟩
  · have hT : isT l = true := by simpa using hc
    refine X.skip ?_
    refine X.seq ?_
    refine X.region ?_
    refine X.opw X.wN rfl (X.move (v := .slice _ _ _) rfl) ?_
    refine X.opw X.wN rfl (X.lenSl Try.underlying23 rfl) ?_
    refine X.opw X.wN rfl (X.cvI Try.underlying3 Try.underlying5 rfl (u8_of _ (by omega))) ?_
    refine X.opE X.wN rfl (X.lit1B Try.underlying25 Try.sizeOf5 Try.zeroValue5 rfl) ?_
    rintro _ w2 ⟨rfl, hs2, hB2, hk2, hz2⟩
    refine X.opw X.wN rfl (X.assign rfl) ?_
    refine X.opsEnd ?_
    refine X.seq ?_
    refine X.seq ?_
    refine X.region ?_
    refine X.opw X.wN rfl (X.assign rfl) ?_
    refine X.opsEnd ?_
    refine X.block ?_
    -- LOOP live: 0=t, 4=b*, 5=i*
    refine X.loopL (σ := Nat × Value) (fun s => [(0, .slice A n c), (4, s.2), (5, .int .i64 (s.1 : Int))]) (fun s w' => s.1 ≤ n ∧ Mine KB 5 (fun k => w.heap.size ≤ k) 0 0 w' s.2 (UInt8.ofNat n :: (l.take s.1).flatMap valB) ∧ Keep w w') (fun s => n - s.1) (0, _) ⟨rfl, rfl, rfl, trivial⟩ ⟨Nat.zero_le _, (Mine.litB hB2 (by intros; (try simp only [] at *); omega)), (hk1.trans hk2)⟩ ?_
    rintro ⟨i, v⟩ b w1 ⟨hi0, hM, hk⟩ hback
    simp only at hi0 hM
    have hk' := hk.size
    have hlen := flat_len hT (fun i x hx => KV_ok hs i x hx) i (by omega)
    have hn8 := isT_len hT
    refine X.seq ?_
    refine X.seq ?_
    refine X.region ?_
    refine X.opw X.wN rfl (X.move (v := .int .i64 _) rfl) ?_
    refine X.opw X.wN rfl (X.move (v := .slice _ _ _) rfl) ?_
    refine X.opw X.wN rfl (X.lenSl Try.underlying23 rfl) ?_
    refine X.opP X.wN rfl rfl (X.lss rfl rfl) (fun h16 => ?_) (fun h16 => ?_)
    · obtain ⟨x, hx⟩ := getN i hl h16
      have hV := KV_ok hs i x hx
      have hN := hV.2.1
      have hsz := isV_size (isT_at hT hx)
      have hz := numB_10 _ (zig_ok x.2.1 hN).2
      have ht := textB_len (l := x.2.2.data.toList) (by rw [sym_len]; omega)
      have hsl := sym_len x.2.2
      have hvl := valB_len hV (by omega)
      refine X.opsEnd ?_
      refine X.condT rfl ?_
      refine X.skip ?_
      refine X.seq ?_
      refine X.block ?_
      refine X.region ?_
      refine X.opw X.wN rfl (X.move rfl) ?_
      refine X.opw X.wN rfl (X.move (v := .slice _ _ _) rfl) ?_
      refine X.opw X.wN rfl (X.move (v := .int .i64 _) rfl) ?_
      refine X.opw X.wN rfl (X.idxS (hs.keep hk) Try.underlying23 Try.sizeOf75 rfl rfl ⟨by omega, by omega⟩) ?_
      refine X.opw X.wN rfl (X.loadSN Try.isAgg75 Try.sizeOf75 (hs.keep hk) hx rfl (fun _ h => h.1) rfl) ?_
      refine X.opE X.wN rfl (X.callE (one_c x hV (by omega) _) Try.call44 rfl rfl) ?_
      rintro v3 w3 ⟨hM3, hk3⟩
      have hk3' := hk3.size
      obtain ⟨A4, c4, rfl, hc4, hs4⟩ := hM3.slF KB_flat 0 (fun _ _ => Nat.zero_le _)
      refine X.opE X.wN rfl (X.appE (K := KB) (S := fun k => w.heap.size ≤ k) KB_flat Try.underlying25 E5 rfl rfl (hM.keep hk3) hs4 (by (try simp only [List.length_append, List.length_cons, List.length_nil, List.length_take, List.length_drop, List.length_map, List.length_range]); omega) (by intros; (try simp only [] at *); omega)) ?_
      rintro v5 w5 ⟨hM5, hx5⟩
      have hx5' := hx5.size
      refine X.opw X.wN rfl (X.assign rfl) ?_
      refine X.opsEnd ?_
      refine X.inBlock ?_
      refine X.region ?_
      refine X.opw X.wN rfl (X.move (v := .int .i64 _) rfl) ?_
      refine X.opw X.wN rfl (X.add rfl rfl (X.w_i64 (by omega))) ?_
      refine X.opw X.wN rfl (X.assign (v := .int .i64 _) rfl) ?_
      refine X.opsEnd ?_
      refine hback (i + 1, _) _ _ ⟨rfl, rfl, rfl, trivial⟩ ⟨by simp only []; omega, ?_, ((hk.trans hk3).step hx5 (by intros; (try simp only [] at *); omega))⟩ (by simp only []; omega)
      have e := hM5
      simp only []
      rw [flat_step valB hx, ← List.cons_append]
      exact e
    · refine X.opsEnd ?_
      refine X.condF rfl ?_
      refine X.exit rfl ?_
      refine X.seq ?_
      refine X.region ?_
      refine X.opw X.wN rfl (X.move rfl) ?_
      refine X.opw X.wN rfl (X.assign rfl) ?_
      refine X.opw X.wN rfl (X.assign rfl) ?_
      refine X.opsEnd ?_
      refine X.ret2 (v2 := (.int .i64 _)) Try.func21 Try.results21 rfl rfl ?_
      have e := hM
      rw [show i = l.length by omega, List.take_length] at e
      refine ⟨_, by rw [if_pos hT], ?_, hk⟩
      rw [if_pos hT, tupB, hl]
      exact e
end Go.Proofs.Ytaclpphhidlgpaa
