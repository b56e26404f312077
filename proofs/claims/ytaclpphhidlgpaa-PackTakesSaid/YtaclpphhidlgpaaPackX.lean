/- The walk of the law PackBack. -/
import Derived.Test.YtaclpphhidlgpaaPackMB
namespace Go.Proofs.Ytaclpphhidlgpaa
open Go Go.Proofs.Ytaclpphhidlgpaa.X
set_option linter.unusedVariables false
set_option linter.unusedSimpArgs false

theorem valB_small {v : VAL} (h : okV v) (hv : isV v = true) : (valB v).length ≤ 300 := by
  have hs := isV_size hv
  have hl := sym_len v.2.2
  unfold valB
  split
  · have := numB_10 _ (zig_ok v.2.1 h.2.1).2
    simp only [List.length_cons]; omega
  · have h1 := numB_10 (v.2.2.data.toList.length : Int) (by omega)
    simp only [Int.toNat_natCast] at h1
    simp only [List.length_cons, textB, List.length_append]; omega
theorem vals_small : ∀ l : List VAL, (∀ v ∈ l, isV v = true ∧ okV v) → (l.flatMap valB).length ≤ l.length * 300
  | [], _ => by simp
  | v :: l, h => by
    have h1 := valB_small (h v List.mem_cons_self).2 (h v List.mem_cons_self).1
    have h2 := vals_small l (fun u hu => h u (List.mem_cons_of_mem _ hu))
    rw [List.flatMap_cons, List.length_append, List.length_cons]; omega
theorem cntB_small {l : List VAL} (hT : isT l = true) (ho : ∀ v ∈ l, okV v) {N : Int} (hN : okI N) : (cntB l N).length ≤ 3000 := by
  have h1 := vals_small l (fun v hv => ⟨isT_all hT v hv, ho v hv⟩)
  have h2 := isT_len hT
  have h3 := numB_10 _ (zig_ok N hN).2
  rw [cntB, List.length_append, tupB, List.length_cons]; omega
theorem keyB_small {l : List VAL} (hT : isT l = true) : (keyB l).length ≤ 8000 := by
  have h1 := keyL_len hT l.length (Nat.le_refl _)
  have h2 := isT_len hT
  rw [List.take_length] at h1
  rw [keyB]; omega
theorem tkNum_b (x : Int) (h0 : 0 ≤ x) (h1 : x ≤ 18446744073709551615) {A : Option Addr} {n c : Nat} {xs s : List UInt8} (w : World) (hs : Sl KB 0 w.heap.size w A n xs) (hnc : n ≤ c) (hn : n ≤ 1000000) (hx : xs = [] ++ numB x.toNat ++ s) : Ret Try.prog 31 #[.slice A n c] w fun r w' => r = .tuple #[.int .u64 x, .int .i64 ((numB x.toNat).length : Int), .int .i64 0] ∧ Keep w w' := by
  have hl := hs.len
  refine (TakeNum_c w hs hnc hn).mono fun r w' h => ?_
  rw [List.nil_append] at hx
  rw [hx, pNum_0 _ _ (by omega)] at h
  rw [hx, List.length_append] at hl
  rw [h.1]
  refine ⟨?_, h.2⟩
  simp only [told, cnt, code, Option.isSome_some, if_true]
  rw [show ((x.toNat : Nat) : Int) = x by omega, show ((n : Nat) : Int) - (s.length : Int) = ((numB x.toNat).length : Int) by omega]
theorem tkInt_b (x : Int) (h : okI x) {A : Option Addr} {n c : Nat} {xs s : List UInt8} (w : World) (hs : Sl KB 0 w.heap.size w A n xs) (hnc : n ≤ c) (hn : n ≤ 1000000) (hx : xs = [] ++ numB (zig x).toNat ++ s) : Ret Try.prog 33 #[.slice A n c] w fun r w' => r = .tuple #[.int .i64 x, .int .i64 ((numB (zig x).toNat).length : Int), .int .i64 0] ∧ Keep w w' := by
  have hl := hs.len
  refine (TakeInt_c w hs hnc hn).mono fun r w' h' => ?_
  rw [List.nil_append] at hx
  rw [hx, pInt_back x h] at h'
  rw [hx, List.length_append] at hl
  rw [h'.1]
  refine ⟨?_, h'.2⟩
  simp only [told, cnt, code, Option.isSome_some, if_true]
  rw [show ((n : Nat) : Int) - (s.length : Int) = ((numB (zig x).toNat).length : Int) by omega]
theorem tkText_b (l : List UInt8) (hl2 : l.length ≤ 3000) (k : Nat) (hk : l.length = k) {A : Option Addr} {n c : Nat} {xs s : List UInt8} (w : World) (hs : Sl KB 0 w.heap.size w A n xs) (hnc : n ≤ c) (hn : n ≤ 1000000) (hx : xs = [] ++ textB l ++ s) : Ret Try.prog 35 #[.slice A n c, .int .i64 (k : Int)] w fun r w' => ∃ v, r = .tuple #[v, .int .i64 ((textB l).length : Int), .int .i64 0] ∧ Mine KB 5 (fun k => w.heap.size ≤ k) 0 0 w' v l ∧ Keep w w' := by
  have hl := hs.len
  refine (TakeText_c (k : Int) (by unfold okI; omega) w hs hnc hn).mono fun r w' h' => ?_
  rw [List.nil_append] at hx
  obtain ⟨v, h1, h2, h3⟩ := h'
  rw [hx, pText_back _ _ _ (by omega) (by omega)] at h1 h2
  rw [hx, List.length_append] at hl
  refine ⟨v, ?_, h2, h3⟩
  rw [h1]
  simp only [cnt, code, Option.isSome_some, if_true]
  rw [show ((n : Nat) : Int) - (s.length : Int) = ((textB l).length : Int) by omega]
theorem tkCnt_b (l : List VAL) (hT : isT l = true) (ho : ∀ v ∈ l, okV v) (N : Int) (hN : okI N) {A : Option Addr} {n c : Nat} {xs s : List UInt8} (w : World) (hs : Sl KB 0 w.heap.size w A n xs) (hnc : n ≤ c) (hn : n ≤ 1000000) (hx : xs = [] ++ cntB l N ++ s) : Ret Try.prog 39 #[.slice A n c] w fun r w' => ∃ A' c', r = .tuple #[.agg #[.slice A' l.length c', .int .i64 N], .int .i64 ((cntB l N).length : Int), .int .i64 0] ∧ l.length ≤ c' ∧ Sl KV 0 w'.heap.size w' A' l.length l ∧ Keep w w' := by
  have hl := hs.len
  refine (TakeCounted_c w hs hnc hn).mono fun r w' h' => ?_
  rw [List.nil_append] at hx
  obtain ⟨v, h1, h2, h3⟩ := h'
  rw [hx, pCnt_back hT ho N hN] at h1 h2
  rw [hx, List.length_append] at hl
  obtain ⟨A', c', e, hc, hs'⟩ := h2.slF KV_flat 0 (fun _ _ => Nat.zero_le _)
  subst e
  refine ⟨A', c', ?_, hc, hs', h3⟩
  rw [h1]
  simp only [told, cnt, code, Option.isSome_some, if_true]
  rw [show ((n : Nat) : Int) - (s.length : Int) = ((cntB l N).length : Int) by omega]
theorem fromKey_b (l : List VAL) (hT : isT l = true) (ho : ∀ v ∈ l, okV v) {A : Option Addr} {n c : Nat} {xs : List UInt8} (w : World) (hs : Sl KB 0 w.heap.size w A n xs) (hnc : n ≤ c) (hn : n ≤ 1000000) (hx : xs = keyB l) : Ret Try.prog 29 #[.slice A n c] w fun r w' => ∃ v, r = .tuple #[v, .int .i64 0] ∧ Mine KV 75 (fun k => w.heap.size ≤ k) 0 0 w' v l ∧ Keep w w' := by
  refine (FromKey_c w hs hnc hn).mono fun r w' h' => ?_
  rw [hx, pFrom_back hT ho] at h'
  exact h'
theorem KeyT_c {lo hi : Nat} {A : Option Addr} {n c : Nat} {l : List VAL} (hT : isT l = true) (w : World) (hs : Sl KV lo hi w A n l) (hhi : hi ≤ w.heap.size) : Ret Try.prog 11 #[.slice A n c] w fun r w' => ∃ v, r = .tuple #[v, .int .i64 0] ∧ FreshB w w' v (keyB l) :=
  (Key_c w hs hhi).mono fun r w' h => by rw [if_pos hT, if_pos hT] at h; exact h
-- f9 "pedigree/pedigreelaw03.PackBack" params [33, 2, 25, 42, 25] results [4] -> [(ResultVar.tmp 10)] nfree 0
set_option maxHeartbeats 4000000 in
set_option maxRecDepth 100000 in
theorem PackBack_c (w : World) (x : Int) (g0 : (Lit.int .u64 x).wf = true) (i : Int) (hI : okI i) (A1 : Option Addr) (n1 c1 : Nat) (l1 : List UInt8) (hc1 : n1 ≤ c1) (s1 : Sl KB 0 w.heap.size w A1 n1 l1)
  (cs : Array Value) (y : List VAL × Int) (g : (Kd.pair (Kd.slice KV) KI).R 0 w.heap.size w y cs.toList) (A2 : Option Addr) (n2 c2 : Nat) (l2 : List UInt8) (hc2 : n2 ≤ c2) (s2 : Sl KB 0 w.heap.size w A2 n2 l2) :
    Ret Try.prog 9 #[.int .u64 x, .int .i64 i, .slice A1 n1 c1, .agg cs, .slice A2 n2 c2] w fun r w' => r = .bool true ∧ Keep w w' := by
  obtain ⟨gx0, gx1⟩ := u64_ok g0
  obtain ⟨l3, N⟩ := y
  obtain ⟨a, b, e, ⟨A3, n3, c3, rfl, hc3, s3⟩, ⟨rfl, hN⟩⟩ := g
  obtain rfl : cs = #[.slice A3 n3 c3, .int .i64 N] := Array.toList_inj.1 e
  have hN : okI N := hN
  replace s3 : Sl KV 0 w.heap.size w A3 n3 l3 := s3
  have hok := cutT_ok s3
  have hz1 := numB_10 x gx1
  have hz2 := numB_10 _ (zig_ok i hI).2
  have ht1 : (l1.take 3000).length ≤ 3000 := by rw [List.length_take]; omega
  have ht2 : (l2.take 3000).length ≤ 3000 := by rw [List.length_take]; omega
  have ht3 : (textB (l1.take 3000)).length ≤ 3010 := by
    have := numB_10 ((l1.take 3000).length : Int) (by omega)
    simp only [Int.toNat_natCast] at this
    rw [textB, List.length_append]; omega
  refine X.enter Try.func9 rfl Try.ntmps9 rfl ?_
  refine X.seq ?_
  refine X.region ?_
  refine X.opE X.wN rfl (X.boxE rfl rfl) ?_
  rintro _ w1 ⟨rfl, hB1, hk1, hz1⟩
  refine X.opw X.wN rfl (X.assign rfl) ?_
  refine X.opsEnd ?_
  refine X.seq ?_
  refine X.region ?_
  refine X.opw X.wN rfl (X.move (v := .slice _ _ _) rfl) ?_
  refine X.opE X.wN rfl (X.callE (short_c _ (s1.keep hk1) (by omega)) Try.call15 rfl rfl) ?_
  rintro _ w2 ⟨m2, rfl, hmc2, hmt2, hs2, hk2⟩
  have hk2' := hk2.size
  refine X.opw X.wN rfl (X.move (v := .slice _ _ _) rfl) ?_
  refine X.opE X.wN rfl (X.callE (short_c _ (s2.keep (hk1.trans hk2)) (by omega)) Try.call15 rfl rfl) ?_
  rintro _ w3 ⟨m3, rfl, hmc3, hmt3, hs3, hk3⟩
  have hk3' := hk3.size
  refine X.opw X.wN rfl (X.assign (v := .slice _ _ _) rfl) ?_
  refine X.opw X.wN rfl (X.assign (v := .slice _ _ _) rfl) ?_
  refine X.opsEnd ?_
  refine X.seq ?_
  refine X.region ?_
  refine X.opw X.wN rfl (X.fldB (j := 0) Try.underlying42 rfl rfl Try.sizeOf23 rfl) ?_
  refine X.opw X.wN rfl (X.load1B Try.isAgg23 (hB1.keep (hk2.trans hk3)) rfl rfl) ?_
  refine X.opE X.wN rfl (X.callE (cut_c _ (s3.keep ((hk1.trans hk2).trans hk3)) (by omega) (by omega)) Try.call10 rfl rfl) ?_
  rintro v4 w4 ⟨hM4, hk4⟩
  have hk4' := hk4.size
  refine X.opw X.wN rfl (X.fldB (j := 0) Try.underlying42 rfl rfl Try.sizeOf23 rfl) ?_
  have q5 := hM4.slF KV_flat w3.heap.size (fun _ h => h)
  obtain ⟨A5, c5, rfl, hc5, hs5⟩ := q5
  refine X.opE X.wN rfl (X.storeE Try.sizeOf23 (hB1.keep ((hk2.trans hk3).trans hk4)) rfl rfl rfl rfl) ?_
  rintro _ w6 ⟨hB6, hx6, hz6⟩
  refine X.opsEnd ?_
  refine X.seq ?_
  refine X.region ?_
  refine X.opw X.wN rfl (X.move (v := .int .u64 _) rfl) ?_
  refine X.opE X.wN rfl (X.callE (Num_c _ (by omega) (by omega) _) Try.call17 rfl rfl) ?_
  rintro v7 w7 ⟨hM7, hk7⟩
  have hk7' := hk7.size
  refine X.opw X.wN rfl (X.assign rfl) ?_
  refine X.opsEnd ?_
  refine X.seq ?_
  refine X.region ?_
  refine X.opE X.wN rfl (X.lit0E (K := KB) (S := fun k => w7.heap.size ≤ k) Try.underlying25 Try.sizeOf5 (by intros; (try simp only [] at *); omega)) ?_
  rintro v8 w8 ⟨hM8, hk8, hz8⟩
  refine X.opw X.wN rfl (X.move rfl) ?_
  have q9 := (hM7.keep hk8).slF KB_flat w6.heap.size (fun _ h => h)
  obtain ⟨A9, c9, rfl, hc9, hs9⟩ := q9
  refine X.opE X.wN rfl (X.appE (K := KB) (S := fun k => w7.heap.size ≤ k) KB_flat Try.underlying25 E5 rfl rfl hM8 hs9 (by (try simp only [List.length_append, List.length_cons, List.length_nil, List.length_take, List.length_drop, List.length_map, List.length_range]); omega) (by intros; (try simp only [] at *); omega)) ?_
  rintro v10 w10 ⟨hM10, hx10⟩
  have hx10' := hx10.size
  refine X.opw X.wN rfl (X.move (v := .slice _ _ _) rfl) ?_
  refine X.opE X.wN rfl (X.appE (K := KB) (S := fun k => w7.heap.size ≤ k) KB_flat Try.underlying25 E5 rfl rfl hM10 (((hs3.keep hk4).ext hx6 (by intros; (try simp only []); omega)).keep ((hk7.trans hk8).step hx10 (by intros; (try simp only [] at *); omega))) (by (try simp only [List.length_append, List.length_cons, List.length_nil, List.length_take, List.length_drop, List.length_map, List.length_range]); omega) (by intros; (try simp only [] at *); omega)) ?_
  rintro v11 w11 ⟨hM11, hx11⟩
  have hx11' := hx11.size
  have q13 := hM11.slF KB_flat 0 (fun _ _ => Nat.zero_le _)
  obtain ⟨A13, c13, rfl, hc13, hs13⟩ := q13
  refine X.opE X.wN rfl (X.callE (tkNum_b x gx0 gx1 _ hs13 (by omega) (by (try simp only [List.length_append, List.length_nil] at *); omega) rfl) Try.call31 rfl rfl) ?_
  rintro _ w12 ⟨rfl, hk12⟩
  have hk12' := hk12.size
  refine X.opw X.wN rfl (X.move rfl) ?_
  refine X.opw X.wN rfl (X.extr rfl rfl) ?_
  refine X.opw X.wN rfl (X.extr rfl rfl) ?_
  refine X.opw X.wN rfl (X.extr rfl rfl) ?_
  refine X.opw X.wN rfl (X.assign (v := .int .u64 _) rfl) ?_
  refine X.opw X.wN rfl (X.assign (v := .int .i64 _) rfl) ?_
  refine X.opw X.wN rfl (X.assign (v := .int .i64 _) rfl) ?_
  refine X.opsEnd ?_
  refine X.seq ?_
  refine X.region ?_
  refine X.opw X.wN rfl (X.move (v := .int .i64 _) rfl) ?_
  refine X.opE X.wN rfl (X.callE (Int_c _ hI _) Try.call26 rfl rfl) ?_
  rintro v14 w14 ⟨hM14, hk14⟩
  have hk14' := hk14.size
  refine X.opw X.wN rfl (X.assign rfl) ?_
  refine X.opsEnd ?_
  refine X.seq ?_
  refine X.region ?_
  refine X.opE X.wN rfl (X.lit0E (K := KB) (S := fun k => w14.heap.size ≤ k) Try.underlying25 Try.sizeOf5 (by intros; (try simp only [] at *); omega)) ?_
  rintro v15 w15 ⟨hM15, hk15, hz15⟩
  refine X.opw X.wN rfl (X.move rfl) ?_
  have q16 := (hM14.keep hk15).slF KB_flat w12.heap.size (fun _ h => h)
  obtain ⟨A16, c16, rfl, hc16, hs16⟩ := q16
  refine X.opE X.wN rfl (X.appE (K := KB) (S := fun k => w14.heap.size ≤ k) KB_flat Try.underlying25 E5 rfl rfl hM15 hs16 (by (try simp only [List.length_append, List.length_cons, List.length_nil, List.length_take, List.length_drop, List.length_map, List.length_range]); omega) (by intros; (try simp only [] at *); omega)) ?_
  rintro v17 w17 ⟨hM17, hx17⟩
  have hx17' := hx17.size
  refine X.opw X.wN rfl (X.move (v := .slice _ _ _) rfl) ?_
  refine X.opE X.wN rfl (X.appE (K := KB) (S := fun k => w14.heap.size ≤ k) KB_flat Try.underlying25 E5 rfl rfl hM17 (((hs3.keep hk4).ext hx6 (by intros; (try simp only []); omega)).keep (((((((hk7.trans hk8).step hx10 (by intros; (try simp only [] at *); omega)).step hx11 (by intros; (try simp only [] at *); omega)).trans hk12).trans hk14).trans hk15).step hx17 (by intros; (try simp only [] at *); omega))) (by (try simp only [List.length_append, List.length_cons, List.length_nil, List.length_take, List.length_drop, List.length_map, List.length_range]); omega) (by intros; (try simp only [] at *); omega)) ?_
  rintro v18 w18 ⟨hM18, hx18⟩
  have hx18' := hx18.size
  have q20 := hM18.slF KB_flat 0 (fun _ _ => Nat.zero_le _)
  obtain ⟨A20, c20, rfl, hc20, hs20⟩ := q20
  refine X.opE X.wN rfl (X.callE (tkInt_b i hI _ hs20 (by omega) (by (try simp only [List.length_append, List.length_nil] at *); omega) rfl) Try.call33 rfl rfl) ?_
  rintro _ w19 ⟨rfl, hk19⟩
  have hk19' := hk19.size
  refine X.opw X.wN rfl (X.move rfl) ?_
  refine X.opw X.wN rfl (X.extr rfl rfl) ?_
  refine X.opw X.wN rfl (X.extr rfl rfl) ?_
  refine X.opw X.wN rfl (X.extr rfl rfl) ?_
  refine X.opw X.wN rfl (X.assign (v := .int .i64 _) rfl) ?_
  refine X.opw X.wN rfl (X.assign (v := .int .i64 _) rfl) ?_
  refine X.opw X.wN rfl (X.assign (v := .int .i64 _) rfl) ?_
  refine X.opsEnd ?_
  refine X.seq ?_
  refine X.region ?_
  refine X.opw X.wN rfl (X.move (v := .slice _ _ _) rfl) ?_
  refine X.opE X.wN rfl (X.callE (Text_c _ (((hs2.keep (hk3.trans hk4)).ext hx6 (by intros; (try simp only []); omega)).keep (((((((((hk7.trans hk8).step hx10 (by intros; (try simp only [] at *); omega)).step hx11 (by intros; (try simp only [] at *); omega)).trans hk12).trans hk14).trans hk15).step hx17 (by intros; (try simp only [] at *); omega)).step hx18 (by intros; (try simp only [] at *); omega)).trans hk19)) (by omega)) Try.call18 rfl rfl) ?_
  rintro v21 w21 ⟨hM21, hk21⟩
  have hk21' := hk21.size
  refine X.opw X.wN rfl (X.assign rfl) ?_
  refine X.opsEnd ?_
  refine X.seq ?_
  refine X.region ?_
  refine X.opE X.wN rfl (X.lit0E (K := KB) (S := fun k => w21.heap.size ≤ k) Try.underlying25 Try.sizeOf5 (by intros; (try simp only [] at *); omega)) ?_
  rintro v22 w22 ⟨hM22, hk22, hz22⟩
  refine X.opw X.wN rfl (X.move rfl) ?_
  have q23 := (hM21.keep hk22).slF KB_flat w19.heap.size (fun _ h => h)
  obtain ⟨A23, c23, rfl, hc23, hs23⟩ := q23
  refine X.opE X.wN rfl (X.appE (K := KB) (S := fun k => w21.heap.size ≤ k) KB_flat Try.underlying25 E5 rfl rfl hM22 hs23 (by (try simp only [List.length_append, List.length_cons, List.length_nil, List.length_take, List.length_drop, List.length_map, List.length_range]); omega) (by intros; (try simp only [] at *); omega)) ?_
  rintro v24 w24 ⟨hM24, hx24⟩
  have hx24' := hx24.size
  refine X.opw X.wN rfl (X.move (v := .slice _ _ _) rfl) ?_
  refine X.opE X.wN rfl (X.appE (K := KB) (S := fun k => w21.heap.size ≤ k) KB_flat Try.underlying25 E5 rfl rfl hM24 (((hs3.keep hk4).ext hx6 (by intros; (try simp only []); omega)).keep ((((((((((((hk7.trans hk8).step hx10 (by intros; (try simp only [] at *); omega)).step hx11 (by intros; (try simp only [] at *); omega)).trans hk12).trans hk14).trans hk15).step hx17 (by intros; (try simp only [] at *); omega)).step hx18 (by intros; (try simp only [] at *); omega)).trans hk19).trans hk21).trans hk22).step hx24 (by intros; (try simp only [] at *); omega))) (by (try simp only [List.length_append, List.length_cons, List.length_nil, List.length_take, List.length_drop, List.length_map, List.length_range]); omega) (by intros; (try simp only [] at *); omega)) ?_
  rintro v25 w25 ⟨hM25, hx25⟩
  have hx25' := hx25.size
  refine X.opw X.wN rfl (X.move (v := .slice _ _ _) rfl) ?_
  refine X.opw X.wN rfl (X.lenSl Try.underlying25 rfl) ?_
  have q27 := hM25.slF KB_flat 0 (fun _ _ => Nat.zero_le _)
  obtain ⟨A27, c27, rfl, hc27, hs27⟩ := q27
  refine X.opE X.wN rfl (X.callE (tkText_b (l1.take 3000) (by rw [List.length_take]; omega) _ ((((hs2.keep (hk3.trans hk4)).ext hx6 (by intros; (try simp only []); omega)).keep (((((((((((((hk7.trans hk8).step hx10 (by intros; (try simp only [] at *); omega)).step hx11 (by intros; (try simp only [] at *); omega)).trans hk12).trans hk14).trans hk15).step hx17 (by intros; (try simp only [] at *); omega)).step hx18 (by intros; (try simp only [] at *); omega)).trans hk19).trans hk21).trans hk22).step hx24 (by intros; (try simp only [] at *); omega)).step hx25 (by intros; (try simp only [] at *); omega))).len) _ hs27 (by omega) (by (try simp only [List.length_append, List.length_nil] at *); omega) rfl) Try.call35 rfl rfl) ?_
  rintro _ w26 ⟨v26, rfl, hM26, hk26⟩
  have hk26' := hk26.size
  refine X.opw X.wN rfl (X.move rfl) ?_
  refine X.opw X.wN rfl (X.extr rfl rfl) ?_
  refine X.opw X.wN rfl (X.extr rfl rfl) ?_
  refine X.opw X.wN rfl (X.extr rfl rfl) ?_
  refine X.opw X.wN rfl (X.assign rfl) ?_
  refine X.opw X.wN rfl (X.assign (v := .int .i64 _) rfl) ?_
  refine X.opw X.wN rfl (X.assign (v := .int .i64 _) rfl) ?_
  refine X.opsEnd ?_
  refine X.seq ?_
  refine X.seq ?_
  refine X.region ?_
  refine X.opw X.wN rfl (X.move (v := .int .i64 _) rfl) ?_
  refine X.opP X.wN rfl rfl (X.neI rfl rfl) (fun h79 => ?_) (fun h79 => ?_)
  · exact absurd rfl h79
  · refine X.opw X.wN rfl (X.move (v := .bool false) rfl) ?_
    refine X.opw (X.wG rfl rfl rfl) rfl (X.move (v := .int .i64 _) rfl) ?_
    refine X.opP (X.wG rfl rfl rfl) rfl rfl (X.neI rfl rfl) (fun h82 => ?_) (fun h82 => ?_)
    · exact absurd rfl h82
    · refine X.opw X.wN rfl (X.pickF (v := .bool false) rfl rfl) ?_
      refine X.opw X.wN rfl (X.move (v := .bool false) rfl) ?_
      refine X.opw (X.wG rfl rfl rfl) rfl (X.move (v := .int .i64 _) rfl) ?_
      refine X.opP (X.wG rfl rfl rfl) rfl rfl (X.neI rfl rfl) (fun h86 => ?_) (fun h86 => ?_)
      · exact absurd rfl h86
      · refine X.opw X.wN rfl (X.pickF (v := .bool false) rfl rfl) ?_
        refine X.opw X.wN rfl (X.move (v := .bool false) rfl) ?_
        refine X.opw (X.wG rfl rfl rfl) rfl (X.move (v := .int .u64 _) rfl) ?_
        refine X.opw (X.wG rfl rfl rfl) rfl (X.move (v := .int .u64 _) rfl) ?_
        refine X.opP (X.wG rfl rfl rfl) rfl rfl (X.neI rfl rfl) (fun h91 => ?_) (fun h91 => ?_)
        · exact absurd rfl h91
        · refine X.opw X.wN rfl (X.pickF (v := .bool false) rfl rfl) ?_
          refine X.opw X.wN rfl (X.move (v := .bool false) rfl) ?_
          refine X.opw (X.wG rfl rfl rfl) rfl (X.move (v := .int .i64 _) rfl) ?_
          refine X.opw (X.wG rfl rfl rfl) rfl (X.move rfl) ?_
          refine X.opw (X.wG rfl rfl rfl) rfl (X.lenSl Try.underlying25 rfl) ?_
          refine X.opP (X.wG rfl rfl rfl) rfl rfl (X.neI rfl rfl) (fun h97 => ?_) (fun h97 => ?_)
          · exact absurd rfl h97
          · refine X.opw X.wN rfl (X.pickF (v := .bool false) rfl rfl) ?_
            refine X.opw X.wN rfl (X.move (v := .bool false) rfl) ?_
            refine X.opw (X.wG rfl rfl rfl) rfl (X.move (v := .int .i64 _) rfl) ?_
            refine X.opw (X.wG rfl rfl rfl) rfl (X.move (v := .int .i64 _) rfl) ?_
            refine X.opP (X.wG rfl rfl rfl) rfl rfl (X.neI rfl rfl) (fun h102 => ?_) (fun h102 => ?_)
            · exact absurd rfl h102
            · refine X.opw X.wN rfl (X.pickF (v := .bool false) rfl rfl) ?_
              refine X.opw X.wN rfl (X.move (v := .bool false) rfl) ?_
              refine X.opw (X.wG rfl rfl rfl) rfl (X.move (v := .int .i64 _) rfl) ?_
              refine X.opw (X.wG rfl rfl rfl) rfl (X.move rfl) ?_
              refine X.opw (X.wG rfl rfl rfl) rfl (X.lenSl Try.underlying25 rfl) ?_
              refine X.opP (X.wG rfl rfl rfl) rfl rfl (X.neI rfl rfl) (fun h108 => ?_) (fun h108 => ?_)
              · exact absurd rfl h108
              · refine X.opw X.wN rfl (X.pickF (v := .bool false) rfl rfl) ?_
                refine X.opw X.wN rfl (X.move (v := .bool false) rfl) ?_
                refine X.opw (X.wG rfl rfl rfl) rfl (X.move rfl) ?_
                have q28 := hM26.slF KB_flat w25.heap.size (fun _ h => h)
                obtain ⟨A28, c28, rfl, hc28, hs28⟩ := q28
                refine X.opw (X.wG rfl rfl rfl) rfl (X.str Try.underlying25 Try.underlying5 Try.underlying9 rfl KB_is rfl hs28) ?_
                refine X.opw (X.wG rfl rfl rfl) rfl (X.move (v := .slice _ _ _) rfl) ?_
                refine X.opw (X.wG rfl rfl rfl) rfl (X.str Try.underlying25 Try.underlying5 Try.underlying9 rfl KB_is rfl (((hs2.keep (hk3.trans hk4)).ext hx6 (by intros; (try simp only []); omega)).keep ((((((((((((((hk7.trans hk8).step hx10 (by intros; (try simp only [] at *); omega)).step hx11 (by intros; (try simp only [] at *); omega)).trans hk12).trans hk14).trans hk15).step hx17 (by intros; (try simp only [] at *); omega)).step hx18 (by intros; (try simp only [] at *); omega)).trans hk19).trans hk21).trans hk22).step hx24 (by intros; (try simp only [] at *); omega)).step hx25 (by intros; (try simp only [] at *); omega)).trans hk26))) ?_
                refine X.opP (X.wG rfl rfl rfl) rfl rfl (X.neD rfl rfl) (fun h115 => ?_) (fun h115 => ?_)
                · exact absurd rfl h115
                · refine X.opw X.wN rfl (X.pickF (v := .bool false) rfl rfl) ?_
                  refine X.opw X.wN rfl (X.move (v := .bool false) rfl) ?_
                  refine X.opw (X.wG rfl rfl rfl) rfl (X.move (v := .int .i64 _) rfl) ?_
                  refine X.opw (X.wG rfl rfl rfl) rfl (X.move rfl) ?_
                  refine X.opw (X.wG rfl rfl rfl) rfl (X.lenSl Try.underlying25 rfl) ?_
                  refine X.opP (X.wG rfl rfl rfl) rfl rfl (X.neI rfl rfl) (fun h121 => ?_) (fun h121 => ?_)
                  · exact absurd rfl h121
                  · refine X.opw X.wN rfl (X.pickF (v := .bool false) rfl rfl) ?_
                    refine X.opsEnd ?_
                    refine X.condF rfl ?_
                    refine X.skip ?_
                    refine X.seq ?_
                    refine X.region ?_
                    refine X.opw X.wN rfl (X.loadNB Try.isAgg42 Try.sizeOf42 (hB6.keep ((((((((((((((hk7.trans hk8).step hx10 (by intros; (try simp only [] at *); omega)).step hx11 (by intros; (try simp only [] at *); omega)).trans hk12).trans hk14).trans hk15).step hx17 (by intros; (try simp only [] at *); omega)).step hx18 (by intros; (try simp only [] at *); omega)).trans hk19).trans hk21).trans hk22).step hx24 (by intros; (try simp only [] at *); omega)).step hx25 (by intros; (try simp only [] at *); omega)).trans hk26)) rfl rfl rfl) ?_
                    refine X.opE X.wN rfl (X.callE (Counted_c N hN _ ((hs5.ext hx6 (by intros; (try simp only []); omega)).keep ((((((((((((((hk7.trans hk8).step hx10 (by intros; (try simp only [] at *); omega)).step hx11 (by intros; (try simp only [] at *); omega)).trans hk12).trans hk14).trans hk15).step hx17 (by intros; (try simp only [] at *); omega)).step hx18 (by intros; (try simp only [] at *); omega)).trans hk19).trans hk21).trans hk22).step hx24 (by intros; (try simp only [] at *); omega)).step hx25 (by intros; (try simp only [] at *); omega)).trans hk26)) (by omega)) Try.call22 rfl rfl) ?_
                    rintro _ w29 ⟨v29, rfl, hM29, hk29⟩
                    have hk29' := hk29.size
                    refine X.opw X.wN rfl (X.move rfl) ?_
                    refine X.opw X.wN rfl (X.extr rfl rfl) ?_
                    refine X.opw X.wN rfl (X.extr rfl rfl) ?_
                    refine X.opw X.wN rfl (X.assign rfl) ?_
                    refine X.opw X.wN rfl (X.assign (v := .int .i64 _) rfl) ?_
                    refine X.opsEnd ?_
                    refine X.seq ?_
                    refine X.seq ?_
                    refine X.region ?_
                    refine X.opw X.wN rfl (X.move (v := .int .i64 _) rfl) ?_
                    refine X.opP X.wN rfl rfl (X.neI rfl rfl) (fun h129 => ?_) (fun h129 => ?_)
                    · refine X.opsEnd ?_
                      refine X.condT rfl ?_
                      refine X.seq ?_
                      refine X.region ?_
                      refine X.opw X.wN rfl (X.fldB (j := 0) Try.underlying42 rfl rfl Try.sizeOf23 rfl) ?_
                      refine X.opw X.wN rfl (X.load1B Try.isAgg23 (hB6.keep (((((((((((((((hk7.trans hk8).step hx10 (by intros; (try simp only [] at *); omega)).step hx11 (by intros; (try simp only [] at *); omega)).trans hk12).trans hk14).trans hk15).step hx17 (by intros; (try simp only [] at *); omega)).step hx18 (by intros; (try simp only [] at *); omega)).trans hk19).trans hk21).trans hk22).step hx24 (by intros; (try simp only [] at *); omega)).step hx25 (by intros; (try simp only [] at *); omega)).trans hk26).trans hk29)) rfl rfl) ?_
                      refine X.opE X.wN rfl (X.callE (R03Is_c _ ((hs5.ext hx6 (by intros; (try simp only []); omega)).keep (((((((((((((((hk7.trans hk8).step hx10 (by intros; (try simp only [] at *); omega)).step hx11 (by intros; (try simp only [] at *); omega)).trans hk12).trans hk14).trans hk15).step hx17 (by intros; (try simp only [] at *); omega)).step hx18 (by intros; (try simp only [] at *); omega)).trans hk19).trans hk21).trans hk22).step hx24 (by intros; (try simp only [] at *); omega)).step hx25 (by intros; (try simp only [] at *); omega)).trans hk26).trans hk29))) Try.call12 rfl rfl) ?_
                      rintro _ w30 ⟨rfl, hk30⟩
                      have hk30' := hk30.size
                      refine X.opw X.wN rfl (X.not_ rfl) ?_
                      refine X.opw X.wN rfl (X.move (v := .bool _) rfl) ?_
                      refine X.forkO 134 rfl (fun h134 => ?_) (fun h134 => ?_)
                      · refine X.opE (X.wG rfl rfl rfl) rfl (X.callE (alive_c _) Try.call13 rfl rfl) ?_
                        rintro _ w31 ⟨rfl, hk31⟩
                        have hk31' := hk31.size
                        refine X.opw X.wN rfl (X.pickT (v := .bool _) rfl rfl) ?_
                        refine X.opw X.wN rfl (X.assign (v := .bool _) rfl) ?_
                        refine X.opsEnd ?_
                        refine X.ret1 (v := (.bool _)) Try.func9 Try.results9 rfl ?_
                        exact ⟨rfl, ((((((((((((((((((((((hk1.trans hk2).trans hk3).trans hk4).step hx6 (by intros; (try simp only [] at *); omega)).trans hk7).trans hk8).step hx10 (by intros; (try simp only [] at *); omega)).step hx11 (by intros; (try simp only [] at *); omega)).trans hk12).trans hk14).trans hk15).step hx17 (by intros; (try simp only [] at *); omega)).step hx18 (by intros; (try simp only [] at *); omega)).trans hk19).trans hk21).trans hk22).step hx24 (by intros; (try simp only [] at *); omega)).step hx25 (by intros; (try simp only [] at *); omega)).trans hk26).trans hk29).trans hk30).trans hk31)⟩
                      · exact absurd (if_pos (by simpa using h134)) h129
                    · have hT := n20 h129
                      rw [if_pos hT] at hM29
                      have hcs := cntB_small hT hok hN
                      have hks := keyB_small hT
                      refine X.opsEnd ?_
                      refine X.condF rfl ?_
                      refine X.skip ?_
                      refine X.seq ?_
                      refine X.region ?_
                      refine X.opE X.wN rfl (X.lit0E (K := KB) (S := fun k => w29.heap.size ≤ k) Try.underlying25 Try.sizeOf5 (by intros; (try simp only [] at *); omega)) ?_
                      rintro v32 w32 ⟨hM32, hk32, hz32⟩
                      refine X.opw X.wN rfl (X.move rfl) ?_
                      have q33 := (hM29.keep hk32).slF KB_flat w26.heap.size (fun _ h => h)
                      obtain ⟨A33, c33, rfl, hc33, hs33⟩ := q33
                      refine X.opE X.wN rfl (X.appE (K := KB) (S := fun k => w29.heap.size ≤ k) KB_flat Try.underlying25 E5 rfl rfl hM32 hs33 (by (try simp only [List.length_append, List.length_cons, List.length_nil, List.length_take, List.length_drop, List.length_map, List.length_range]); omega) (by intros; (try simp only [] at *); omega)) ?_
                      rintro v34 w34 ⟨hM34, hx34⟩
                      have hx34' := hx34.size
                      refine X.opw X.wN rfl (X.move (v := .slice _ _ _) rfl) ?_
                      refine X.opE X.wN rfl (X.appE (K := KB) (S := fun k => w29.heap.size ≤ k) KB_flat Try.underlying25 E5 rfl rfl hM34 (((hs3.keep hk4).ext hx6 (by intros; (try simp only []); omega)).keep (((((((((((((((((hk7.trans hk8).step hx10 (by intros; (try simp only [] at *); omega)).step hx11 (by intros; (try simp only [] at *); omega)).trans hk12).trans hk14).trans hk15).step hx17 (by intros; (try simp only [] at *); omega)).step hx18 (by intros; (try simp only [] at *); omega)).trans hk19).trans hk21).trans hk22).step hx24 (by intros; (try simp only [] at *); omega)).step hx25 (by intros; (try simp only [] at *); omega)).trans hk26).trans hk29).trans hk32).step hx34 (by intros; (try simp only [] at *); omega))) (by (try simp only [List.length_append, List.length_cons, List.length_nil, List.length_take, List.length_drop, List.length_map, List.length_range]); omega) (by intros; (try simp only [] at *); omega)) ?_
                      rintro v35 w35 ⟨hM35, hx35⟩
                      have hx35' := hx35.size
                      have q37 := hM35.slF KB_flat 0 (fun _ _ => Nat.zero_le _)
                      obtain ⟨A37, c37, rfl, hc37, hs37⟩ := q37
                      refine X.opE X.wN rfl (X.callE (tkCnt_b (cutT l3) hT hok N hN _ hs37 (by omega) (by (try simp only [List.length_append, List.length_nil] at *); omega) rfl) Try.call39 rfl rfl) ?_
                      rintro _ w36 ⟨A36, c36, rfl, hc36, hs36, hk36⟩
                      have hk36' := hk36.size
                      refine X.opw X.wN rfl (X.move rfl) ?_
                      refine X.opw X.wN rfl (X.extr rfl rfl) ?_
                      refine X.opw X.wN rfl (X.extr rfl rfl) ?_
                      refine X.opw X.wN rfl (X.extr rfl rfl) ?_
                      refine X.opE X.wN rfl (X.allocE Try.zeroValue42 rfl) ?_
                      rintro _ w38 ⟨rfl, hB38, hk38, hz38⟩
                      refine X.opE X.wN rfl (X.storeNE Try.sizeOf42 hB38 rfl rfl rfl rfl (fun u hu => by simp at hu; rcases hu with rfl | rfl <;> rfl)) ?_
                      rintro _ w39 ⟨hB39, hx39, hz39⟩
                      refine X.opw X.wN rfl (X.assign (v := .int .i64 _) rfl) ?_
                      refine X.opw X.wN rfl (X.assign (v := .int .i64 _) rfl) ?_
                      refine X.opsEnd ?_
                      refine X.seq ?_
                      refine X.region ?_
                      refine X.opw X.wN rfl (X.fldB (j := 0) Try.underlying42 rfl rfl Try.sizeOf23 rfl) ?_
                      refine X.opw X.wN rfl (X.load1B Try.isAgg23 (hB6.keep (((((((((((((((((((((hk7.trans hk8).step hx10 (by intros; (try simp only [] at *); omega)).step hx11 (by intros; (try simp only [] at *); omega)).trans hk12).trans hk14).trans hk15).step hx17 (by intros; (try simp only [] at *); omega)).step hx18 (by intros; (try simp only [] at *); omega)).trans hk19).trans hk21).trans hk22).step hx24 (by intros; (try simp only [] at *); omega)).step hx25 (by intros; (try simp only [] at *); omega)).trans hk26).trans hk29).trans hk32).step hx34 (by intros; (try simp only [] at *); omega)).step hx35 (by intros; (try simp only [] at *); omega)).trans hk36).trans hk38).step hx39 (by intros; (try simp only [] at *); omega))) rfl rfl) ?_
                      refine X.opE X.wN rfl (X.callE (KeyT_c hT _ ((hs5.ext hx6 (by intros; (try simp only []); omega)).keep (((((((((((((((((((((hk7.trans hk8).step hx10 (by intros; (try simp only [] at *); omega)).step hx11 (by intros; (try simp only [] at *); omega)).trans hk12).trans hk14).trans hk15).step hx17 (by intros; (try simp only [] at *); omega)).step hx18 (by intros; (try simp only [] at *); omega)).trans hk19).trans hk21).trans hk22).step hx24 (by intros; (try simp only [] at *); omega)).step hx25 (by intros; (try simp only [] at *); omega)).trans hk26).trans hk29).trans hk32).step hx34 (by intros; (try simp only [] at *); omega)).step hx35 (by intros; (try simp only [] at *); omega)).trans hk36).trans hk38).step hx39 (by intros; (try simp only [] at *); omega))) (by omega)) Try.call11 rfl rfl) ?_
                      rintro _ w40 ⟨v40, rfl, hM40, hk40⟩
                      have hk40' := hk40.size
                      refine X.opw X.wN rfl (X.move rfl) ?_
                      refine X.opw X.wN rfl (X.extr rfl rfl) ?_
                      refine X.opw X.wN rfl (X.extr rfl rfl) ?_
                      refine X.opw X.wN rfl (X.assign rfl) ?_
                      refine X.opw X.wN rfl (X.assign (v := .int .i64 _) rfl) ?_
                      refine X.opsEnd ?_
                      refine X.seq ?_
                      refine X.region ?_
                      refine X.opw X.wN rfl (X.move rfl) ?_
                      have q42 := hM40.slF KB_flat w39.heap.size (fun _ h => h)
                      obtain ⟨A42, c42, rfl, hc42, hs42⟩ := q42
                      refine X.opE X.wN rfl (X.callE (fromKey_b (cutT l3) hT hok _ (hs42.wide (Nat.zero_le _) (Nat.le_refl _)) (by omega) (by omega) rfl) Try.call29 rfl rfl) ?_
                      rintro _ w41 ⟨v41, rfl, hM41, hk41⟩
                      have hk41' := hk41.size
                      refine X.opw X.wN rfl (X.move rfl) ?_
                      refine X.opw X.wN rfl (X.extr rfl rfl) ?_
                      refine X.opw X.wN rfl (X.extr rfl rfl) ?_
                      refine X.opw X.wN rfl (X.assign rfl) ?_
                      refine X.opw X.wN rfl (X.assign (v := .int .i64 _) rfl) ?_
                      refine X.opsEnd ?_
                      refine X.seq ?_
                      refine X.region ?_
                      refine X.opw X.wN rfl (X.move (v := .int .i64 _) rfl) ?_
                      refine X.opP X.wN rfl rfl (X.eqI rfl rfl) (fun h159 => ?_) (fun h159 => ?_)
                      · refine X.opw X.wN rfl (X.move (v := .bool true) rfl) ?_
                        refine X.opw (X.wG rfl rfl rfl) rfl (X.move (v := .int .i64 _) rfl) ?_
                        refine X.opP (X.wG rfl rfl rfl) rfl rfl (X.eqI rfl rfl) (fun h162 => ?_) (fun h162 => ?_)
                        · refine X.opw X.wN rfl (X.pickT (v := .bool true) rfl rfl) ?_
                          refine X.opw X.wN rfl (X.move (v := .bool true) rfl) ?_
                          refine X.opw (X.wG rfl rfl rfl) rfl (X.move (v := .int .i64 _) rfl) ?_
                          refine X.opP (X.wG rfl rfl rfl) rfl rfl (X.eqI rfl rfl) (fun h166 => ?_) (fun h166 => ?_)
                          · refine X.opw X.wN rfl (X.pickT (v := .bool true) rfl rfl) ?_
                            refine X.opw X.wN rfl (X.move (v := .bool true) rfl) ?_
                            refine X.opw (X.wG rfl rfl rfl) rfl (X.move (v := .int .i64 _) rfl) ?_
                            refine X.opw (X.wG rfl rfl rfl) rfl (X.move rfl) ?_
                            refine X.opw (X.wG rfl rfl rfl) rfl (X.lenSl Try.underlying25 rfl) ?_
                            refine X.opP (X.wG rfl rfl rfl) rfl rfl (X.eqI rfl rfl) (fun h172 => ?_) (fun h172 => ?_)
                            · refine X.opw X.wN rfl (X.pickT (v := .bool true) rfl rfl) ?_
                              refine X.opw X.wN rfl (X.move (v := .bool true) rfl) ?_
                              refine X.opw (X.wG rfl rfl rfl) rfl (X.fldB (j := 0) Try.underlying42 rfl rfl Try.sizeOf23 rfl) ?_
                              refine X.opw (X.wG rfl rfl rfl) rfl (X.load1B Try.isAgg23 (hB39.keep (hk40.trans hk41)) rfl rfl) ?_
                              refine X.opw (X.wG rfl rfl rfl) rfl (X.fldB (j := 0) Try.underlying42 rfl rfl Try.sizeOf23 rfl) ?_
                              refine X.opw (X.wG rfl rfl rfl) rfl (X.load1B Try.isAgg23 (hB6.keep (((((((((((((((((((((((hk7.trans hk8).step hx10 (by intros; (try simp only [] at *); omega)).step hx11 (by intros; (try simp only [] at *); omega)).trans hk12).trans hk14).trans hk15).step hx17 (by intros; (try simp only [] at *); omega)).step hx18 (by intros; (try simp only [] at *); omega)).trans hk19).trans hk21).trans hk22).step hx24 (by intros; (try simp only [] at *); omega)).step hx25 (by intros; (try simp only [] at *); omega)).trans hk26).trans hk29).trans hk32).step hx34 (by intros; (try simp only [] at *); omega)).step hx35 (by intros; (try simp only [] at *); omega)).trans hk36).trans hk38).step hx39 (by intros; (try simp only [] at *); omega)).trans hk40).trans hk41)) rfl rfl) ?_
                              refine X.opE (X.wG rfl rfl rfl) rfl (X.callE (Same_c _ (hs36.keep (((hk38.step hx39 (by intros; (try simp only [] at *); omega)).trans hk40).trans hk41)) ((hs5.ext hx6 (by intros; (try simp only []); omega)).keep (((((((((((((((((((((((hk7.trans hk8).step hx10 (by intros; (try simp only [] at *); omega)).step hx11 (by intros; (try simp only [] at *); omega)).trans hk12).trans hk14).trans hk15).step hx17 (by intros; (try simp only [] at *); omega)).step hx18 (by intros; (try simp only [] at *); omega)).trans hk19).trans hk21).trans hk22).step hx24 (by intros; (try simp only [] at *); omega)).step hx25 (by intros; (try simp only [] at *); omega)).trans hk26).trans hk29).trans hk32).step hx34 (by intros; (try simp only [] at *); omega)).step hx35 (by intros; (try simp only [] at *); omega)).trans hk36).trans hk38).step hx39 (by intros; (try simp only [] at *); omega)).trans hk40).trans hk41)) (by omega) (by omega)) Try.call20 rfl rfl) ?_
                              rintro _ w43 ⟨rfl, hk43⟩
                              have hk43' := hk43.size
                              refine X.opw X.wN rfl (X.pickT (v := .bool _) rfl rfl) ?_
                              refine X.opw X.wN rfl (X.move (v := .bool _) rfl) ?_
                              refine X.forkO 181 rfl (fun h181 => ?_) (fun h181 => ?_)
                              · refine X.opw (X.wG rfl rfl rfl) rfl (X.fldB (j := 1) Try.underlying42 rfl rfl Try.sizeOf2 rfl) ?_
                                refine X.opw (X.wG rfl rfl rfl) rfl (X.load1B Try.isAgg2 (hB39.keep ((hk40.trans hk41).trans hk43)) rfl rfl) ?_
                                refine X.opw (X.wG rfl rfl rfl) rfl (X.fldB (j := 1) Try.underlying42 rfl rfl Try.sizeOf2 rfl) ?_
                                refine X.opw (X.wG rfl rfl rfl) rfl (X.load1B Try.isAgg2 (hB6.keep ((((((((((((((((((((((((hk7.trans hk8).step hx10 (by intros; (try simp only [] at *); omega)).step hx11 (by intros; (try simp only [] at *); omega)).trans hk12).trans hk14).trans hk15).step hx17 (by intros; (try simp only [] at *); omega)).step hx18 (by intros; (try simp only [] at *); omega)).trans hk19).trans hk21).trans hk22).step hx24 (by intros; (try simp only [] at *); omega)).step hx25 (by intros; (try simp only [] at *); omega)).trans hk26).trans hk29).trans hk32).step hx34 (by intros; (try simp only [] at *); omega)).step hx35 (by intros; (try simp only [] at *); omega)).trans hk36).trans hk38).step hx39 (by intros; (try simp only [] at *); omega)).trans hk40).trans hk41).trans hk43)) rfl rfl) ?_
                                refine X.opP (X.wG rfl rfl rfl) rfl rfl (X.eqI rfl rfl) (fun h186 => ?_) (fun h186 => ?_)
                                · refine X.opw X.wN rfl (X.pickT (v := .bool true) rfl rfl) ?_
                                  refine X.opw X.wN rfl (X.move (v := .bool true) rfl) ?_
                                  refine X.opw (X.wG rfl rfl rfl) rfl (X.move rfl) ?_
                                  refine X.opw (X.wG rfl rfl rfl) rfl (X.fldB (j := 0) Try.underlying42 rfl rfl Try.sizeOf23 rfl) ?_
                                  refine X.opw (X.wG rfl rfl rfl) rfl (X.load1B Try.isAgg23 (hB6.keep ((((((((((((((((((((((((hk7.trans hk8).step hx10 (by intros; (try simp only [] at *); omega)).step hx11 (by intros; (try simp only [] at *); omega)).trans hk12).trans hk14).trans hk15).step hx17 (by intros; (try simp only [] at *); omega)).step hx18 (by intros; (try simp only [] at *); omega)).trans hk19).trans hk21).trans hk22).step hx24 (by intros; (try simp only [] at *); omega)).step hx25 (by intros; (try simp only [] at *); omega)).trans hk26).trans hk29).trans hk32).step hx34 (by intros; (try simp only [] at *); omega)).step hx35 (by intros; (try simp only [] at *); omega)).trans hk36).trans hk38).step hx39 (by intros; (try simp only [] at *); omega)).trans hk40).trans hk41).trans hk43)) rfl rfl) ?_
                                  have q45 := (hM41.keep hk43).slF KV_flat w40.heap.size (fun _ h => h)
                                  obtain ⟨A45, c45, rfl, hc45, hs45⟩ := q45
                                  refine X.opE (X.wG rfl rfl rfl) rfl (X.callE (Same_c _ hs45 ((hs5.ext hx6 (by intros; (try simp only []); omega)).keep ((((((((((((((((((((((((hk7.trans hk8).step hx10 (by intros; (try simp only [] at *); omega)).step hx11 (by intros; (try simp only [] at *); omega)).trans hk12).trans hk14).trans hk15).step hx17 (by intros; (try simp only [] at *); omega)).step hx18 (by intros; (try simp only [] at *); omega)).trans hk19).trans hk21).trans hk22).step hx24 (by intros; (try simp only [] at *); omega)).step hx25 (by intros; (try simp only [] at *); omega)).trans hk26).trans hk29).trans hk32).step hx34 (by intros; (try simp only [] at *); omega)).step hx35 (by intros; (try simp only [] at *); omega)).trans hk36).trans hk38).step hx39 (by intros; (try simp only [] at *); omega)).trans hk40).trans hk41).trans hk43)) (by omega) (by omega)) Try.call20 rfl rfl) ?_
                                  rintro _ w44 ⟨rfl, hk44⟩
                                  have hk44' := hk44.size
                                  refine X.opw X.wN rfl (X.pickT (v := .bool _) rfl rfl) ?_
                                  refine X.opw X.wN rfl (X.move (v := .bool _) rfl) ?_
                                  refine X.forkO 194 rfl (fun h194 => ?_) (fun h194 => ?_)
                                  · refine X.opE (X.wG rfl rfl rfl) rfl (X.callE (alive_c _) Try.call13 rfl rfl) ?_
                                    rintro _ w46 ⟨rfl, hk46⟩
                                    have hk46' := hk46.size
                                    refine X.opw X.wN rfl (X.pickT (v := .bool _) rfl rfl) ?_
                                    refine X.opw X.wN rfl (X.assign (v := .bool _) rfl) ?_
                                    refine X.opsEnd ?_
                                    refine X.ret1 (v := (.bool _)) Try.func9 Try.results9 rfl ?_
                                    exact ⟨rfl, (((((((((((((((((((((((((((((((hk1.trans hk2).trans hk3).trans hk4).step hx6 (by intros; (try simp only [] at *); omega)).trans hk7).trans hk8).step hx10 (by intros; (try simp only [] at *); omega)).step hx11 (by intros; (try simp only [] at *); omega)).trans hk12).trans hk14).trans hk15).step hx17 (by intros; (try simp only [] at *); omega)).step hx18 (by intros; (try simp only [] at *); omega)).trans hk19).trans hk21).trans hk22).step hx24 (by intros; (try simp only [] at *); omega)).step hx25 (by intros; (try simp only [] at *); omega)).trans hk26).trans hk29).trans hk32).step hx34 (by intros; (try simp only [] at *); omega)).step hx35 (by intros; (try simp only [] at *); omega)).trans hk36).trans hk38).step hx39 (by intros; (try simp only [] at *); omega)).trans hk40).trans hk41).trans hk43).trans hk44).trans hk46)⟩
                                  · simp [cmpT_eq] at h194
                                · exact absurd rfl h186
                              · simp [cmpT_eq] at h181
                            · exact absurd rfl h172
                          · exact absurd rfl h166
                        · exact absurd rfl h162
                      · exact absurd rfl h159
end Go.Proofs.Ytaclpphhidlgpaa
