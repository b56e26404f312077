/- Texts that the proof of RunFiles stands on, part 11. -/
import Derived.Test.YtbljooblpfdbiaaGreatDoorProg
import Derived.Test.YtbljooblpfdbiaaGreatDoorBunRunFiles10
set_option maxHeartbeats 4000000
set_option maxRecDepth 100000
open Go.Proofs.Tryz renaming func10 → Zf10, func21 → Zf21, func35 → Zf35, func62 → Zf62, func87 → Zf87, func92 → Zf92, isAgg38 → Zi38, isAgg40 → Zi40, isAgg5 → Zi5, isAgg90 → Zi90, results10 → Zr10, results21 → Zr21, results35 → Zr35, results62 → Zr62, results92 → Zr92, sizeOf38 → Zs38, sizeOf40 → Zs40, sizeOf43 → Zs43, sizeOf5 → Zs5, sizeOf90 → Zs90, underlying22 → Zu22, underlying222 → Zu222, underlying3 → Zu3, underlying38 → Zu38, underlying40 → Zu40, underlying43 → Zu43, underlying5 → Zu5, underlying68 → Zu68, zeroValue40 → Zv40, zeroValue5 → Zv5
set_option linter.unusedSimpArgs false
set_option linter.unusedVariables false
namespace Go.Proofs.YtbljooblpfdbiaaGreatDoor
open Go Go.Proofs.YtbljooblpfdbiaaGreatDoor.X
def cnt {α : Type} (o : Option (α × List UInt8)) (n : Nat) : Int := match o with
  | some b => (n : Int) - (b.2.length : Int)
  | none => 0
def code {α : Type} (o : Option (α × List UInt8)) : Int := if o.isSome then 0 else 30
def told {α : Type} (o : Option (α × List UInt8)) (z : α) : α := match o with
  | some b => b.1
  | none => z
theorem takeNum1_c (hi rb T : Nat) (xs : List UInt8) (w : World) (hr : Rd w hi rb T xs) : PP 157 #[.pointer (some ⟨rb, 0, none⟩)] w hi rb T (pNum 0 0 xs) (fun a v _ => v = .int .u64 ((a : Nat) : Int)) := by
 have hrl := hr.lt
 refine X.enter Tryz.func157 rfl Tryz.ntmps157 rfl<|Zs<|Zr<|Zoa rfl rfl<|Ze<|Zs<|Zr<|Zom rfl rfl<|X.opPR (num_c hi rb T _ _ hr) X.wN rfl Tryz.call158 rfl (fun b1 hb1 => ?_) (fun hb1 => ?_)
 ·rintro _ w1 ⟨⟨rfl, hn1⟩, hR1, hx1⟩
  have hx1' := hx1.size
  refine Zoau rfl rfl<|Ze<|X.ret1 (v := (.int .u64 _)) Tryz.func157 Tryz.results157 rfl ?_
  rw [hb1]
  exact ⟨_, rfl, rfl, hR1, (Ext.andThen (Ext.refl (fun k => k = rb) _) hx1 zq31)⟩
 ·rintro w1 hx1
  have hx1' := hx1.size
  refine X.unw_pan Tryz.func157 ?_
  rw [hb1]
  exact ⟨rfl, (Ext.andThen (Ext.refl (fun k => k = rb) _) hx1 zq31)⟩
theorem takeText1_c (most : Int) (hmo : okI most) (bm : Nat) (hi rb T : Nat) (xs : List UInt8) (w : World) (hr : Rd w hi rb T xs) (hB : Blk w bm [.int .i64 most] 3) : PP 128 #[.pointer (some ⟨rb, 0, none⟩), .pointer (some ⟨bm, 0, none⟩)] w hi rb T (pText most xs) (fun a v w' => Mine KB 5 (fun k => w.heap.size ≤ k) 0 0 w' v a) := by
 have hrl := hr.lt
 refine X.enter Tryz.func128 rfl Tryz.ntmps128 rfl<|Zs<|Zr<|Zoa rfl rfl<|Ze<|Zs<|Zr<|Zom rfl rfl<|Zo (X.load1B Tryz.isAgg3 hB rfl rfl) rfl<|X.opPR (text_c most hmo hi rb T _ _ hr) X.wN rfl Tryz.call129 rfl (fun b1 hb1 => ?_) (fun hb1 => ?_)
 ·rintro v1 w1 ⟨hM1, hR1, hx1⟩
  have hx1' := hx1.size
  refine Zoa rfl rfl<|Ze<|X.ret1 Tryz.func128 Tryz.results128 rfl ?_
  rw [hb1]
  exact ⟨_, rfl, hM1, hR1, (Ext.andThen (Ext.refl (fun k => k = rb) _) hx1 zq31)⟩
 ·rintro w1 hx1
  have hx1' := hx1.size
  refine X.unw_pan Tryz.func128 ?_
  rw [hb1]
  exact ⟨rfl, (Ext.andThen (Ext.refl (fun k => k = rb) _) hx1 zq31)⟩
theorem tNum_c {A : Option Addr} {n c : Nat} {xs : List UInt8} (w : World) (hs : Sl KB 0 w.heap.size w A n xs) (hnc : n ≤ c) (hn : n ≤ 1000000) :
    Ret Tryz.prog 156 #[.slice A n c, .func (.func 157) #[] #[]] w fun r w' => r = .tuple #[.int .u64 ((told (pNum 0 0 xs) 0 : Nat) : Int), .int .i64 (cnt (pNum 0 0 xs) n), .int .i64 (code (pNum 0 0 xs))] ∧ Keep w w' := by
  refine (take_u64 (pNum 0 0) (fun _ a v _ => v = .int .u64 ((a : Nat) : Int)) 157 [] Tryz.call157 xs A n c w hs hnc hn (fun wb a v w1 h => by rw [h]; rfl) (fun wb a v w1 w2 U h x hU => h) (fun w' rb hk hR => takeNum1_c rb rb n xs w' hR)).mono fun r w' h => ?_
  obtain ⟨h, hk⟩ := h
  cases hp : pNum 0 0 xs with
  | none => rw [hp] at h; exact ⟨h, hk⟩
  | some b => obtain ⟨a, ys⟩ := b; rw [hp] at h; obtain ⟨v, wb, h1, h2, _⟩ := h; subst h2; exact ⟨h1, hk⟩
theorem tCnt_c {A : Option Addr} {n c : Nat} {xs : List UInt8} (w : World) (hs : Sl KB 0 w.heap.size w A n xs) (hnc : n ≤ c) (hn : n ≤ 1000000) :
    Ret Tryz.prog 133 #[.slice A n c, .func (.func 134) #[] #[]] w fun r w' => ∃ v, r = .tuple #[.agg #[v, .int .i64 (told (pCnt xs) ([], 0)).2], .int .i64 (cnt (pCnt xs) n), .int .i64 (code (pCnt xs))] ∧ Mine KV 90 (fun k => w.heap.size ≤ k) 0 0 w' v (told (pCnt xs) ([], 0)).1 ∧ Keep w w' := by
  refine (take_cnt pCnt (fun wb a v w1 => ∃ u, v = .agg #[u, .int .i64 a.2] ∧ Mine KV 90 (fun k => wb.heap.size ≤ k) 0 0 w1 u a.1 ∧ (∀ z ∈ a.1, okV z) ∧ a.1.length ≤ 8 ∧ okI a.2) 134 [] Tryz.call134 xs A n c w hs hnc hn
    (fun wb a v w1 ⟨u, e, h, _⟩ => ⟨[u, .int .i64 a.2], e, rfl, fun z hz => by simp at hz; rcases hz with rfl | rfl; exact mineV1 h; rfl⟩)
    (fun wb a v w1 w2 U ⟨u, e, h, h'⟩ x hU => ⟨u, e, h.ext x (fun k _ hk => by omega) (fun k hk hu => by have := hU k hu; omega), h'⟩) (fun w' rb hk hR => takeCnt1_c rb rb n xs w' hR)).mono fun r w' h => ?_
  obtain ⟨h, hk⟩ := h
  cases hp : pCnt xs with
  | none => rw [hp] at h; exact ⟨_, h, Mine.nil _ _ _ _ _ _, hk⟩
  | some b => obtain ⟨a, ys⟩ := b; rw [hp] at h; obtain ⟨v, wb, h1, ⟨u, e, h2, _⟩, h3, _⟩ := h; subst e; exact ⟨u, h1, h2.mono (fun k _ hk' => Nat.le_trans h3.size hk'), hk⟩
theorem TakeNum_c {A : Option Addr} {n c : Nat} {xs : List UInt8} (w : World) (hs : Sl KB 0 w.heap.size w A n xs) (hnc : n ≤ c) (hn : n ≤ 1000000) : Ret Tryz.prog 126 #[.slice A n c] w fun r w' => r = .tuple #[.int .u64 ((told (pNum 0 0 xs) 0 : Nat) : Int), .int .i64 (cnt (pNum 0 0 xs) n), .int .i64 (code (pNum 0 0 xs))] ∧ Keep w w' := by
 refine X.enter Tryz.func126 rfl Tryz.ntmps126 rfl<|Zs<|Zr<|Zoa rfl rfl<|Zoa rfl rfl<|Zoa rfl rfl<|Ze<|Zs<|Zr<|Zoms rfl rfl<|Zc (X.callE (tNum_c _ hs hnc hn) Tryz.call156 rfl rfl) rfl ?_
 rintro _ w1 ⟨rfl, hk1⟩
 have hk1' := hk1.size
 refine Zo (X.extr rfl rfl) rfl<|Zo (X.extr rfl rfl) rfl<|Zo (X.extr rfl rfl) rfl<|Zoau rfl rfl<|Zoai rfl rfl<|Zoai rfl rfl<|Ze<|X.ret3 (v1 := (.int .u64 _)) (v2 := (.int .i64 _)) (v3 := (.int .i64 _)) Tryz.func126 Tryz.results126 rfl rfl rfl ?_
 exact ⟨rfl, hk1⟩
theorem tText_c (most : Int) (hmo : okI most) (bm : Nat) {A : Option Addr} {n c : Nat} {xs : List UInt8} (w : World) (hB : Blk w bm [.int .i64 most] 3) (hs : Sl KB 0 w.heap.size w A n xs) (hnc : n ≤ c) (hn : n ≤ 1000000) :
    Ret Tryz.prog 127 #[.slice A n c, .func (.func 128) #[] #[.pointer (some ⟨bm, 0, none⟩)]] w fun r w' => ∃ v, r = .tuple #[v, .int .i64 (cnt (pText most xs) n), .int .i64 (code (pText most xs))] ∧ Mine KB 5 (fun k => w.heap.size ≤ k) 0 0 w' v (told (pText most xs) []) ∧ Keep w w' := by
  refine (take_row (pText most) (fun wb a v w1 => Mine KB 5 (fun k => wb.heap.size ≤ k) 0 0 w1 v a) 128 [.pointer (some ⟨bm, 0, none⟩)] Tryz.call128 xs A n c w hs hnc hn (fun wb a v w1 h => mineV1 h)
    (fun wb a v w1 w2 U h x hU => h.ext x (fun k _ hk => by omega) (fun k hk hu => by have := hU k hu; omega)) (fun w' rb hk hR => takeText1_c most hmo bm rb rb n xs w' hR (hB.keep hk))).mono fun r w' h => ?_
  obtain ⟨h, hk⟩ := h
  cases hp : pText most xs with
  | none => rw [hp] at h; exact ⟨_, h, Mine.nil _ _ _ _ _ _, hk⟩
  | some b => obtain ⟨a, ys⟩ := b; rw [hp] at h; obtain ⟨v, wb, h1, h2, h3, _⟩ := h; exact ⟨v, h1, h2.mono (fun k _ hk' => Nat.le_trans h3.size hk'), hk⟩
theorem TakeText_c (most : Int) (hmo : okI most) {A : Option Addr} {n c : Nat} {xs : List UInt8} (w : World) (hs : Sl KB 0 w.heap.size w A n xs) (hnc : n ≤ c) (hn : n ≤ 1000000) : Ret Tryz.prog 95 #[.slice A n c, .int .i64 most] w fun r w' => ∃ v, r = .tuple #[v, .int .i64 (cnt (pText most xs) n), .int .i64 (code (pText most xs))] ∧ Mine KB 5 (fun k => w.heap.size ≤ k) 0 0 w' v (told (pText most xs) []) ∧ Keep w w' := by
 refine X.enter Tryz.func95 rfl Tryz.ntmps95 rfl<|Zs<|Zr<|Zc (X.boxE rfl rfl) rfl ?_
 rintro _ w1 ⟨rfl, hB1, hk1, hz1⟩
 refine Zoa rfl rfl<|Zoa rfl rfl<|Zoa rfl rfl<|Ze<|Zs<|Zr<|Zoms rfl rfl<|Zo (X.mkFunc rfl) rfl<|Zc (X.callE (tText_c most hmo _ _ hB1 ((hs.keep hk1).wide (Nat.le_refl _) Zz) hnc hn) Tryz.call127 rfl rfl) rfl ?_
 rintro _ w2 ⟨v2, rfl, hM2, hk2⟩
 have hk2' := hk2.size
 refine Zo (X.extr rfl rfl) rfl<|Zo (X.extr rfl rfl) rfl<|Zo (X.extr rfl rfl) rfl<|Zoa rfl rfl<|Zoai rfl rfl<|Zoai rfl rfl<|Ze<|X.ret3 (v2 := (.int .i64 _)) (v3 := (.int .i64 _)) Tryz.func95 Tryz.results95 rfl rfl rfl ?_
 exact ⟨_, rfl, Mine.mono (T := fun k => w.heap.size ≤ k) hM2 (fun k h1 h2 => by (try simp only [] at *); omega), (hk1.trans hk2)⟩
theorem TakeCounted_c {A : Option Addr} {n c : Nat} {xs : List UInt8} (w : World) (hs : Sl KB 0 w.heap.size w A n xs) (hnc : n ≤ c) (hn : n ≤ 1000000) : Ret Tryz.prog 98 #[.slice A n c] w fun r w' => ∃ v, r = .tuple #[.agg #[v, .int .i64 (told (pCnt xs) ([], 0)).2], .int .i64 (cnt (pCnt xs) n), .int .i64 (code (pCnt xs))] ∧ Mine KV 90 (fun k => w.heap.size ≤ k) 0 0 w' v (told (pCnt xs) ([], 0)).1 ∧ Keep w w' := by
 refine X.enter Tryz.func98 rfl Tryz.ntmps98 rfl<|Zs<|Zr<|Zc (X.allocE Zv40 rfl) rfl ?_
 rintro _ w1 ⟨rfl, hB1, hk1, hz1⟩
 refine Zoa rfl rfl<|Zoa rfl rfl<|Ze<|Zs<|Zr<|Zoms rfl rfl<|Zc (X.callE (tCnt_c _ ((hs.keep hk1).wide (Nat.le_refl _) Zz) hnc hn) Tryz.call133 rfl rfl) rfl ?_
 rintro _ w2 ⟨v2, rfl, hM2, hk2⟩
 have hk2' := hk2.size
 refine Zo (X.extr rfl rfl) rfl<|Zo (X.extr rfl rfl) rfl<|Zo (X.extr rfl rfl) rfl<|Zc (X.storeNE Zs40 (hB1.keep hk2) rfl rfl rfl rfl (fun u hu => by simp at hu; rcases hu with rfl | rfl; exact mineV1 hM2; rfl)) rfl ?_
 rintro _ w3 ⟨hB3, hx3, hz3⟩
 refine Zoai rfl rfl<|Zoai rfl rfl<|Ze ?_
 refine X.ret_unw (X.unwR3 Tryz.func98 Tryz.results98 (X.ResOk.cell rfl (X.lvN Zi40 Zs40 hB3 rfl)) (show X.ResOk _ _ _ (.tmp 3) _ from rfl) (show X.ResOk _ _ _ (.tmp 4) _ from rfl) ?_)
 exact ⟨_, rfl, Mine.mono (T := fun k => w.heap.size ≤ k) (hM2.ext hx3 zq36 zq36) (fun k h1 h2 => by (try simp only [] at *); omega), ((hk1.trans hk2).step hx3 zq34)⟩
theorem pNum_back : ∀ (x i acc : Nat) (s : List UInt8), i ≤ 9 → x * 128 ^ i < 18446744073709551616 → (0 < i → 0 < x) → pNum i acc (numB x ++ s) = some (acc + x * 128 ^ i, s) := by
  intro x
  induction x using Nat.strongRecOn with
  | _ x ih =>
    intro i acc s hi hb h0
    obtain ⟨p1, p2, p3, p4⟩ := pow128 i hi
    have h9 : i = 9 → x ≤ 1 := by
      intro e
      have := p4 e
      rw [this] at hb
      omega
    rw [numB.eq_def]
    by_cases hx : x < 128
    · have hc : (UInt8.ofNat x).toNat = x := by rw [UInt8.toNat_ofNat']; omega
      rw [if_pos hx, List.singleton_append, pNum, hc, if_neg Zz, if_pos hx, Nat.mod_eq_of_lt hx]
    · have hc : (UInt8.ofNat (x % 128 + 128)).toNat = x % 128 + 128 := by rw [UInt8.toNat_ofNat']; omega
      have hx8 : i ≤ 8 := by omega
      rw [if_neg hx, List.cons_append, pNum, hc, if_neg Zz, if_neg Zz]
      have e1 : (x % 128 + 128) % 128 = x % 128 := by omega
      have e2 : x / 128 * 128 ^ (i + 1) + x % 128 * 128 ^ i = x * 128 ^ i := by
        rw [← p1, ← Nat.mul_assoc, Nat.mul_comm (x / 128 * 128 ^ i) 128, ← Nat.mul_assoc, ← Nat.add_mul, Nat.mul_comm 128]
        congr 1; omega
      rw [e1, ih (x / 128) Zz (i + 1) _ s Zz Zz (fun _ => by omega)]
      congr 2
      omega
theorem pNum_0 (x : Nat) (s : List UInt8) (h : x < 18446744073709551616) : pNum 0 0 (numB x ++ s) = some (x, s) := by
  have := pNum_back x 0 0 s Zz Zz (fun h => by omega)
  simpa using this
theorem pNum_just : ∀ (xs : List UInt8) (i acc : Nat) (b : Nat × List UInt8), pNum i acc xs = some b → ∃ d, b.1 = acc + d * 128 ^ i ∧ xs = numB d ++ b.2 ∧ (0 < i → 0 < d) := by
  intro xs
  induction xs with
  | nil => intro i acc b h; cases h
  | cons c xs ih =>
    intro i acc b h
    rw [pNum] at h
    split at h
    · cases h
    · rename_i hf
      have hc := c.toNat_lt
      split at h
      · rename_i hl
        cases h
        refine ⟨c.toNat, by rw [Nat.mod_eq_of_lt hl], ?_, fun h => by omega⟩
        rw [numB, if_pos hl, List.singleton_append, UInt8.ofNat_toNat]
      · rename_i hl
        obtain ⟨d, h1, h2, h3⟩ := ih _ _ _ h
        have hd := h3 Zz
        refine ⟨d * 128 + c.toNat % 128, ?_, ?_, fun _ => by omega⟩
        · rw [h1, Nat.add_mul, Nat.mul_assoc, Nat.mul_comm 128, ← Nat.pow_succ]; show _ = acc + (d * 128 ^ (i + 1) + _); omega
        · rw [numB, if_neg Zz, List.cons_append, show (d * 128 + c.toNat % 128) / 128 = d by omega, h2]
          congr 1
          apply UInt8.toNat_inj.1
          rw [UInt8.toNat_ofNat']; omega
theorem pNum_j {xs : List UInt8} {b : Nat × List UInt8} (h : pNum 0 0 xs = some b) : xs = numB b.1 ++ b.2 := by
  obtain ⟨d, h1, h2, _⟩ := pNum_just xs 0 0 b h
  rw [show b.1 = d by simpa using h1]; exact h2
theorem pNum_lt : ∀ (xs : List UInt8) (i acc : Nat) (b : Nat × List UInt8), i ≤ 9 → acc < 128 ^ i → pNum i acc xs = some b → b.1 < 18446744073709551616 := by
  intro xs
  induction xs with
  | nil => intro i acc b _ _ h; cases h
  | cons c xs ih =>
    intro i acc b hi ha h
    rw [pNum] at h
    split at h
    · cases h
    · rename_i hf
      obtain ⟨n1, n2, n3⟩ := num_bound c hi ha Zz
      split at h
      · cases h; exact n1
      · rename_i hl
        exact ih (i + 1) _ b (by have := n3 Zz; omega) n2 h
theorem zig_unzig (x : Int) (h : okI x) : unzig (zig x).toNat = x := by
  unfold okI at h; unfold unzig zig; split <;> split <;> omega
theorem unzig_zig (a : Nat) : (zig (unzig a)).toNat = a := by
  unfold unzig zig; split <;> split <;> omega
theorem pInt_back (x : Int) (h : okI x) (s : List UInt8) : pInt (numB (zig x).toNat ++ s) = some (x, s) := by
  have := zig_ok x h
  rw [pInt, pNum_0 _ s Zz]
  simp [zig_unzig x h]
theorem pInt_just {xs : List UInt8} {b : Int × List UInt8} (h : pInt xs = some b) : xs = numB (zig b.1).toNat ++ b.2 ∧ okI b.1 := by
  rw [pInt] at h
  obtain ⟨q, hq, rfl⟩ := Option.map_eq_some_iff.1 h
  exact ⟨by rw [unzig_zig]; exact pNum_j hq, unzig_ok (pNum_lt xs 0 0 q Zz (by simp) hq)⟩
theorem pText_back (most : Int) (l s : List UInt8) (h1 : (l.length : Int) ≤ most) (h2 : l.length ≤ 1048576) : pText most (textB l ++ s) = some (l, s) := by
  rw [pText, textB, List.append_assoc, pNum_0 _ _ Zz]
  dsimp only
  rw [if_neg (by rw [List.length_append]; omega)]
  simp
theorem pText_just {most : Int} {xs : List UInt8} {b : List UInt8 × List UInt8} (h : pText most xs = some b) : xs = textB b.1 ++ b.2 ∧ (b.1.length : Int) ≤ most ∧ b.1.length ≤ 1048576 := by
  unfold pText at h
  split at h
  · cases h
  · rename_i a ys hq
    split at h
    · cases h
    · rename_i hf
      cases h
      have hj := pNum_j hq
      dsimp only at hj ⊢
      have hl : (ys.take a).length = a := by rw [List.length_take]; omega
      rw [textB, hl, List.append_assoc, List.take_append_drop]
      exact ⟨hj, by omega, by omega⟩
theorem sym_of (l : List UInt8) : (⟨l.toArray⟩ : ByteArray).data.toList = l := by simp
theorem arr_of (s : ByteArray) : (⟨s.data.toList.toArray⟩ : ByteArray) = s := by
  obtain ⟨⟨l⟩⟩ := s; rfl
theorem pVal_back {v : VAL} (hv : isV v = true) (ho : okV v) (s : List UInt8) : pVal (valB v ++ s) = some (v, s) := by
  obtain ⟨k, n, t⟩ := v
  rcases isV_cases hv with ⟨h1, h2⟩ | ⟨h1, h2, h3⟩ <;> simp only at h1 h2 <;> subst h1 h2
  · rw [valB, if_pos rfl, List.cons_append, pVal, if_pos (by decide), pInt_back _ ho.2.1]; rfl
  · have hl := sym_len t
    rw [valB, if_neg (by simp), List.cons_append, pVal, if_neg (by decide), if_pos (by decide), pText_back _ _ _ (show (t.data.toList.length : Int) ≤ 256 by simp only at h3; omega) (show t.data.toList.length ≤ 1048576 by simp only at h3; omega)]
    simp only [Option.map_some, arr_of]
theorem pVal_just {xs : List UInt8} {b : VAL × List UInt8} (h : pVal xs = some b) : xs = valB b.1 ++ b.2 ∧ isV b.1 = true ∧ okV b.1 := by
  cases xs with
  | nil => cases h
  | cons c xs =>
    rw [pVal] at h
    split at h
    · rename_i hc
      obtain ⟨q, hq, rfl⟩ := Option.map_eq_some_iff.1 h
      obtain ⟨h1, h2⟩ := pInt_just hq
      have hc1 : c = 1 := UInt8.toNat_inj.1 hc
      refine ⟨?_, by simp [isV], by simp [okI], h2, by simp [ByteArray.size]⟩
      rw [valB, if_pos rfl, hc1, List.cons_append, ← h1]
    · split at h
      · rename_i hc
        obtain ⟨q, hq, rfl⟩ := Option.map_eq_some_iff.1 h
        obtain ⟨h1, h2, h3⟩ := pText_just hq
        have hc1 : c = 2 := UInt8.toNat_inj.1 hc
        have hs : (⟨q.1.toArray⟩ : ByteArray).size = q.1.length := by show q.1.toArray.size = _; simp
        refine ⟨?_, decide_eq_true (.inr ⟨rfl, rfl, by dsimp only; rw [hs]; omega⟩), by simp [okI], by simp [okI], by dsimp only; rw [hs]; omega⟩
        rw [valB, if_neg (by simp), hc1, List.cons_append, sym_of, ← h1]
      · cases h
theorem pVals_back : ∀ (l : List VAL) (s : List UInt8), (∀ v ∈ l, isV v = true ∧ okV v) → pVals l.length (l.flatMap valB ++ s) = some (l, s)
  | [], s, _ => rfl
  | v :: l, s, h => by
    have hv := h v List.mem_cons_self
    rw [List.length_cons, pVals, List.flatMap_cons, List.append_assoc, pVal_back hv.1 hv.2]
    dsimp only
    rw [pVals_back l s (fun u hu => h u (List.mem_cons_of_mem _ hu))]; rfl
theorem pVals_just : ∀ (n : Nat) (xs : List UInt8) (b : List VAL × List UInt8), pVals n xs = some b → xs = b.1.flatMap valB ++ b.2 ∧ b.1.length = n ∧ ∀ v ∈ b.1, isV v = true ∧ okV v := by
  intro n
  induction n with
  | zero => intro xs b h; cases h; exact ⟨rfl, rfl, by simp⟩
  | succ n ih =>
    intro xs b h
    rw [pVals] at h
    split at h
    · cases h
    · rename_i v ys hv
      obtain ⟨q, hq, rfl⟩ := Option.map_eq_some_iff.1 h
      obtain ⟨h1, h2, h3⟩ := pVal_just hv
      obtain ⟨h4, h5, h6⟩ := ih ys q hq
      dsimp only at h1 h2 h3 ⊢
      refine ⟨by rw [h1, List.flatMap_cons, List.append_assoc, ← h4], by rw [List.length_cons, h5], fun u hu => ?_⟩
      rcases List.mem_cons.1 hu with rfl | hu
      · exact ⟨h2, h3⟩
      · exact h6 u hu
theorem isT_of {l : List VAL} (h : ∀ v ∈ l, isV v = true) (hl : l.length ≤ 8) : isT l = true := by
  simp only [isT, Bool.and_eq_true, List.all_eq_true, decide_eq_true_eq]
  exact ⟨h, hl⟩
theorem pTup_back {l : List VAL} (hl : isT l = true) (ho : ∀ v ∈ l, okV v) (s : List UInt8) : pTup (tupB l ++ s) = some (l, s) := by
  have h8 := isT_len hl
  have hc : (UInt8.ofNat l.length).toNat = l.length := by rw [UInt8.toNat_ofNat']; omega
  rw [tupB, List.cons_append, pTup, hc, if_neg Zz]
  exact pVals_back l s (fun v hv => ⟨isT_all hl v hv, ho v hv⟩)
theorem pTup_just {xs : List UInt8} {b : List VAL × List UInt8} (h : pTup xs = some b) : xs = tupB b.1 ++ b.2 ∧ isT b.1 = true ∧ ∀ v ∈ b.1, okV v := by
  cases xs with
  | nil => cases h
  | cons c xs =>
    rw [pTup] at h
    split at h
    · cases h
    · rename_i hc
      obtain ⟨h1, h2, h3⟩ := pVals_just _ _ _ h
      refine ⟨?_, isT_of (fun v hv => (h3 v hv).1) Zz, fun v hv => (h3 v hv).2⟩
      rw [tupB, h2, UInt8.ofNat_toNat, List.cons_append, ← h1]
theorem pCnt_back {l : List VAL} (hl : isT l = true) (ho : ∀ v ∈ l, okV v) (N : Int) (hN : okI N) (s : List UInt8) : pCnt (cntB l N ++ s) = some ((l, N), s) := by
  rw [pCnt, cntB, List.append_assoc, pTup_back hl ho]
  dsimp only
  rw [pInt_back N hN]; rfl
theorem pCnt_just {xs : List UInt8} {b : (List VAL × Int) × List UInt8} (h : pCnt xs = some b) : xs = cntB b.1.1 b.1.2 ++ b.2 ∧ isT b.1.1 = true ∧ (∀ v ∈ b.1.1, okV v) ∧ okI b.1.2 := by
  rw [pCnt] at h
  split at h
  · cases h
  · rename_i l ys hq
    obtain ⟨q, hq2, rfl⟩ := Option.map_eq_some_iff.1 h
    obtain ⟨h1, h2, h3⟩ := pTup_just hq
    obtain ⟨h4, h5⟩ := pInt_just hq2
    dsimp only at *
    exact ⟨by rw [cntB, List.append_assoc, ← h4]; exact h1, h2, h3, h5⟩
/-! ### Keys -/
theorem pSym_back : ∀ (s t : List UInt8), pSym (s.flatMap escB ++ [0, 1] ++ t) = some (s, t)
  | [], t => by
    show pSym (0 :: 1 :: t) = _
    rw [pSym_0 rfl]; rfl
  | c :: s, t => by
    rw [List.flatMap_cons, List.append_assoc, List.append_assoc]
    by_cases hc : c = 0
    · subst hc
      have e : escB 0 = [0, 255] := rfl
      rw [e]
      show pSym (0 :: 255 :: (s.flatMap escB ++ ([0, 1] ++ t))) = _
      rw [pSym_0 rfl]
      dsimp only
      rw [if_neg (by decide), if_pos (by decide), ← List.append_assoc, pSym_back s t]; rfl
    · have e : escB c = [c] := by simp [escB, hc]
      rw [e]
      show pSym (c :: (s.flatMap escB ++ ([0, 1] ++ t))) = _
      rw [pSym_1 (fun h => hc (UInt8.toNat_inj.1 h)), ← List.append_assoc, pSym_back s t]; rfl
theorem beN_app (a b : List UInt8) : beN (a ++ b) = beN a * 256 ^ b.length + beN b := by
  have key : ∀ (b : List UInt8) (x : Nat), b.foldl (fun x c => x * 256 + c.toNat) x = x * 256 ^ b.length + beN b := by
    intro b
    induction b with
    | nil => intro x; simp [beN]
    | cons c b ih =>
      intro x
      rw [List.foldl_cons, ih, List.length_cons, Nat.pow_succ, show beN (c :: b) = c.toNat * 256 ^ b.length + beN b by rw [beN, List.foldl_cons, ih]; simp, Nat.add_mul, Nat.mul_assoc, Nat.mul_comm 256]
      omega
  rw [beN, List.foldl_append, key]; rfl
theorem dig_len : ∀ n K, (dig n K).length = n
  | 0, _ => rfl
  | n + 1, K => by rw [dig, List.length_cons, dig_len n K]
theorem beN_dig : ∀ n K, beN (dig n K) = K % 256 ^ n
  | 0, K => by simp [dig, beN, Nat.mod_one]
  | n + 1, K => by
    have e : dig (n + 1) K = [UInt8.ofNat (K / 256 ^ n)] ++ dig n K := rfl
    rw [e, beN_app, dig_len, beN_dig n K, Nat.mod_pow_succ]
    have : beN [UInt8.ofNat (K / 256 ^ n)] = K / 256 ^ n % 256 := by simp [beN]
    rw [this, Nat.mul_comm]; omega
theorem pKey_back {v : VAL} (hv : isV v = true) (ho : okV v) (s : List UInt8) : pKey (valK v ++ s) = some (v, s) := by
  obtain ⟨k, n, t⟩ := v
  rcases isV_cases hv with ⟨h1, h2⟩ | ⟨h1, h2, h3⟩ <;> simp only at h1 h2 <;> subst h1 h2
  · have hn := keyN_ok ho.2.1
    have hl : (dig 8 (keyN n) ++ s).length = 8 + s.length := by rw [List.length_append, dig_len]
    rw [valK_1 rfl, List.cons_append, pKey, if_pos (by decide), if_pos (by dsimp only; omega)]
    have e1 : (dig 8 (keyN n) ++ s).take 8 = dig 8 (keyN n) := List.take_left' (dig_len 8 _)
    have e2 : (dig 8 (keyN n) ++ s).drop 8 = s := List.drop_left' (dig_len 8 _)
    dsimp only
    rw [e1, e2, beN_dig, Nat.mod_eq_of_lt (by have := hn.2; dsimp only at this; omega)]
    have h3 := hn.1
    dsimp only at h3
    rw [h3]
    rw [Int.add_sub_cancel]
  · rw [valK_2 rfl, List.cons_append, pKey, if_neg (by decide), if_pos (by decide), pSym_back]
    simp only [Option.map_some, arr_of]
theorem pAll_back : ∀ (l : List VAL), (∀ v ∈ l, isV v = true ∧ okV v) → pAll (keyB l) = some l
  | [], _ => rfl
  | v :: l, h => by
    have hv := h v List.mem_cons_self
    have e : keyB (v :: l) = valK v ++ keyB l := List.flatMap_cons
    rw [e, pAll_cons (pKey_back hv.1 hv.2 _), pAll_back l (fun u hu => h u (List.mem_cons_of_mem _ hu))]; rfl
theorem pFrom_back {l : List VAL} (hl : isT l = true) (ho : ∀ v ∈ l, okV v) : pFrom (keyB l) = some l := by
  rw [pFrom_some (pAll_back l (fun v hv => ⟨isT_all hl v hv, ho v hv⟩)), if_pos hl]
abbrev R32 := BitVec 32
def poly : R32 := 0xEDB88320#32
def st1 (r : R32) : R32 := if r.getLsbD 0 then (r >>> 1) ^^^ poly else r >>> 1
def stN : Nat → R32 → R32
  | 0, r => r
  | k + 1, r => stN k (st1 r)
def tabL : List Nat := [0x00000000, 0x1db71064, 0x3b6e20c8, 0x26d930ac, 0x76dc4190, 0x6b6b51f4, 0x4db26158, 0x5005713c, 0xedb88320, 0xf00f9344, 0xd6d6a3e8, 0xcb61b38c, 0x9b64c2b0, 0x86d3d2d4, 0xa00ae278, 0xbdbdf21c]
def tabV (n : Nat) : R32 := BitVec.ofNat 32 (tabL.getD n 0)
def nib (r : R32) : R32 := (r >>> 4) ^^^ tabV (r &&& 15#32).toNat
def C32 (c : UInt8) : R32 := BitVec.ofNat 32 c.toNat
def byteC (r : R32) (c : UInt8) : R32 := nib (nib (r ^^^ C32 c))
def moreC (r : R32) (l : List UInt8) : R32 := l.foldl byteC r
def sumC (l : List UInt8) : R32 := ~~~ (moreC (BitVec.ofNat 32 4294967295) l)
def lowC (r : R32) : List UInt8 := [UInt8.ofNat r.toNat, UInt8.ofNat (r >>> 8).toNat, UInt8.ofNat (r >>> 16).toNat, UInt8.ofNat (r >>> 24).toNat]
def num4 (a b c d : UInt8) : R32 := C32 a ||| (C32 b <<< 8) ||| (C32 c <<< 16) ||| (C32 d <<< 24)
def numC : List UInt8 → R32
  | a :: b :: c :: d :: _ => num4 a b c d
  | _ => 0
def sealC (l : List UInt8) : List UInt8 := l ++ lowC (sumC l)
def openC (l : List UInt8) : Int × List UInt8 :=
  if l.length < 4 then (41, []) else if sumC (l.take (l.length - 4)) = numC (l.drop (l.length - 4)) then (0, l.take (l.length - 4)) else (40, [])
theorem st1_xor (a b : R32) : st1 (a ^^^ b) = st1 a ^^^ st1 b := by
  unfold st1
  rw [BitVec.getLsbD_xor, BitVec.ushiftRight_xor_distrib]
  cases a.getLsbD 0 <;> cases b.getLsbD 0 <;> simp only [Bool.false_xor, Bool.true_xor, Bool.xor_false, Bool.xor_true, Bool.not_true, Bool.not_false, if_true, if_false, Bool.false_eq_true]
  · rw [BitVec.xor_assoc]
  · rw [BitVec.xor_assoc, BitVec.xor_comm (b >>> 1) poly, ← BitVec.xor_assoc]
  · rw [BitVec.xor_assoc, BitVec.xor_comm poly (b >>> 1 ^^^ poly), BitVec.xor_assoc (b >>> 1), BitVec.xor_self, BitVec.xor_zero]
theorem stN_xor (k : Nat) : ∀ a b : R32, stN k (a ^^^ b) = stN k a ^^^ stN k b := by
  induction k with
  | zero => intro a b; rfl
  | succ k ih => intro a b; rw [stN, st1_xor, ih]; rfl
theorem st1_even {r : R32} (h : r.toNat % 2 = 0) : (st1 r).toNat = r.toNat / 2 := by
  unfold st1
  have : r.getLsbD 0 = false := by rw [BitVec.getLsbD, Nat.testBit_zero]; simp; omega
  rw [this, if_neg (by decide), BitVec.toNat_ushiftRight, Nat.shiftRight_eq_div_pow]
theorem stN_even (k : Nat) : ∀ {r : R32}, r.toNat % 2 ^ k = 0 → (stN k r).toNat = r.toNat / 2 ^ k := by
  induction k with
  | zero => intro r h; simp [stN]
  | succ k ih =>
    intro r h
    have h2 : r.toNat % 2 = 0 := by
      have := Nat.mod_mod_of_dvd r.toNat (show 2 ∣ 2 ^ (k + 1) from ⟨2 ^ k, by rw [Nat.pow_succ, Nat.mul_comm]⟩)
      rw [h] at this; omega
    have h1 := st1_even h2
    rw [stN, ih (by rw [h1]; rw [Nat.pow_succ] at h; have := Nat.mod_mul_left_div_self r.toNat 2 (2 ^ k); rw [h] at this; omega), h1, Nat.div_div_eq_div_mul, Nat.pow_succ, Nat.mul_comm]
theorem tab_st : ∀ n : Fin 16, stN 4 (BitVec.ofNat 32 n.1) = tabV n.1 := by decide
theorem and15 (r : R32) : (r &&& 15#32).toNat = r.toNat % 16 := by
  rw [BitVec.toNat_and]
  exact Nat.and_two_pow_sub_one_eq_mod r.toNat 4
theorem split4 (r : R32) : r = ((r >>> 4) <<< 4) ^^^ (r &&& 15#32) := by
  apply BitVec.eq_of_getLsbD_eq
  intro i hi
  have h15 : (15#32).getLsbD i = decide (i < 4) := by
    have : ∀ i : Fin 32, (15#32).getLsbD i.1 = decide (i.1 < 4) := by decide
    exact this ⟨i, hi⟩
  rw [BitVec.getLsbD_xor, BitVec.getLsbD_and, h15, BitVec.getLsbD_shiftLeft, BitVec.getLsbD_ushiftRight]
  by_cases h : i < 4
  · simp [h]
  · simp [h, hi, show 4 + (i - 4) = i by omega]
theorem nib_st (r : R32) : nib r = stN 4 r := by
  conv => rhs; rw [split4 r]
  rw [stN_xor]
  have h1 : stN 4 ((r >>> 4) <<< 4) = r >>> 4 := by
    apply BitVec.eq_of_toNat_eq
    have hlt := r.isLt
    have e : ((r >>> 4) <<< 4).toNat = r.toNat / 16 * 16 := by
      rw [BitVec.toNat_shiftLeft, BitVec.toNat_ushiftRight, Nat.shiftLeft_eq, Nat.shiftRight_eq_div_pow]; omega
    rw [stN_even 4 (by rw [e]; omega), e, BitVec.toNat_ushiftRight, Nat.shiftRight_eq_div_pow]; omega
  have h2 : stN 4 (r &&& 15#32) = tabV (r &&& 15#32).toNat := by
    have hb := and15 r
    have := tab_st ⟨(r &&& 15#32).toNat, by rw [hb]; omega⟩
    rw [← this]
    congr 1
    exact (BitVec.ofNat_toNat 32 (r &&& 15#32)).symm ▸ (BitVec.setWidth_eq _).symm
  rw [h1, h2]; rfl
theorem stN_add (a : Nat) : ∀ (b : Nat) (r : R32), stN b (stN a r) = stN (a + b) r := by
  induction a with
  | zero => intro b r; rw [Nat.zero_add]; rfl
  | succ a ih => intro b r; rw [stN, ih, Nat.succ_add]; rfl
theorem byte_st (r : R32) (c : UInt8) : byteC r c = stN 8 (r ^^^ C32 c) := by
  rw [byteC, nib_st, nib_st, stN_add]
/-! ### the reference's single bits -/
def CK (c : UInt8) (k : Nat) : R32 := BitVec.ofNat 32 (c.toNat / 2 ^ k)
def bitK (c : UInt8) (k : Nat) : R32 := CK c k &&& 1#32
theorem and1 (r : R32) : (r &&& 1#32).toNat = r.toNat % 2 := by
  rw [BitVec.toNat_and]
  exact Nat.and_two_pow_sub_one_eq_mod r.toNat 1
theorem CK_toNat (c : UInt8) (k : Nat) : (CK c k).toNat = c.toNat / 2 ^ k := by
  have := c.toNat_lt
  have h2 : c.toNat / 2 ^ k ≤ c.toNat := Nat.div_le_self _ _
  rw [CK, BitVec.toNat_ofNat]; exact Nat.mod_eq_of_lt (Nat.lt_of_le_of_lt h2 Zz)
theorem getLsb0 (r : R32) : r.getLsbD 0 = decide (r.toNat % 2 = 1) := by
  rw [BitVec.getLsbD, Nat.testBit_zero]
theorem shr1_xor_bit (r b : R32) (hb : b.toNat < 2) : (r ^^^ b) >>> 1 = r >>> 1 := by
  rw [BitVec.ushiftRight_xor_distrib]
  have : b >>> 1 = 0#32 := by
    apply BitVec.eq_of_toNat_eq
    rw [BitVec.toNat_ushiftRight, Nat.shiftRight_eq_div_pow]; simp; omega
  rw [this, BitVec.xor_zero]
def rstep (r b : R32) : R32 := if (r ^^^ b) &&& 1#32 = 1#32 then (r >>> 1) ^^^ poly else r >>> 1
theorem rstep_st (r b : R32) (hb : b.toNat < 2) : rstep r b = st1 (r ^^^ b) := by
  unfold rstep st1
  rw [shr1_xor_bit r b hb]
  have h1 := and1 (r ^^^ b)
  by_cases h : (r ^^^ b) &&& 1#32 = 1#32
  · rw [if_pos h, if_pos]
    rw [h] at h1
    rw [getLsb0, ← h1]; rfl
  · rw [if_neg h, if_neg]
    rw [getLsb0, ← h1]
    intro e
    exact h (BitVec.eq_of_toNat_eq (by simpa using e))
theorem bit_lt (c : UInt8) (k : Nat) : (bitK c k).toNat < 2 := by rw [bitK, and1]; omega
theorem st_bit (c : UInt8) (k : Nat) : st1 (CK c k ^^^ bitK c k) = CK c (k + 1) := by
  have e : (CK c k ^^^ bitK c k).toNat = c.toNat / 2 ^ k / 2 * 2 := by
    have h : CK c k = ((CK c k >>> 1) <<< 1) ^^^ bitK c k := by
      apply BitVec.eq_of_getLsbD_eq
      intro i hi
      have h1 : (1#32).getLsbD i = decide (i < 1) := by
        have : ∀ i : Fin 32, (1#32).getLsbD i.1 = decide (i.1 < 1) := by decide
        exact this ⟨i, hi⟩
      rw [bitK, BitVec.getLsbD_xor, BitVec.getLsbD_and, h1, BitVec.getLsbD_shiftLeft, BitVec.getLsbD_ushiftRight]
      by_cases h : i < 1
      · simp [h]
      · simp [h, hi, show 1 + (i - 1) = i by omega]
    have h2 : CK c k ^^^ bitK c k = (CK c k >>> 1) <<< 1 := by
      conv => lhs; lhs; rw [h]
      rw [BitVec.xor_assoc, BitVec.xor_self, BitVec.xor_zero]
    have hc := c.toNat_lt
    have h3 : c.toNat / 2 ^ k ≤ c.toNat := Nat.div_le_self _ _
    rw [h2, BitVec.toNat_shiftLeft, BitVec.toNat_ushiftRight, CK_toNat, Nat.shiftLeft_eq, Nat.shiftRight_eq_div_pow]; omega
  apply BitVec.eq_of_toNat_eq
  rw [st1_even (by rw [e]; omega), e, CK_toNat, Nat.pow_succ, ← Nat.div_div_eq_div_mul]; omega
theorem CK_0 (c : UInt8) : CK c 0 = C32 c := by rw [CK, C32]; simp
theorem CK_8 (c : UInt8) : CK c 8 = 0#32 := by
  have := c.toNat_lt
  rw [CK, show c.toNat / 2 ^ 8 = 0 by omega]
theorem bits_next (T r : R32) (c : UInt8) (k : Nat) (hk : k < 8) (h : stN (8 - k) (r ^^^ CK c k) = T) : stN (8 - (k + 1)) (rstep r (bitK c k) ^^^ CK c (k + 1)) = T := by
  rw [rstep_st _ _ (bit_lt c k), ← st_bit, ← st1_xor]
  rw [show r ^^^ bitK c k ^^^ (CK c k ^^^ bitK c k) = r ^^^ CK c k by
    rw [BitVec.xor_comm (CK c k), BitVec.xor_assoc, ← BitVec.xor_assoc (bitK c k) (bitK c k), BitVec.xor_self, BitVec.zero_xor]]
  rw [show 8 - k = (8 - (k + 1)) + 1 by omega, stN] at h
  exact h
theorem bits_first (r : R32) (c : UInt8) : stN (8 - 0) (r ^^^ CK c 0) = byteC r c := by rw [byte_st, CK_0]
theorem bits_last {T r : R32} {c : UInt8} (h : stN (8 - 8) (r ^^^ CK c 8) = T) : r = T := by
  rw [CK_8, BitVec.xor_zero] at h; exact h
/-! ### the table in memory -/
def TabOk (w : World) : Prop := ∀ i, i < 16 → w.cell? ⟨0, i, none⟩ = some (.int .u32 ((tabV i).toNat : Int))
theorem TabOk.lt {w : World} (h : TabOk w) : 0 < w.heap.size := World.block_lt_of_cell? w _ (h 0 Zz)
theorem TabOk.ext {w w' : World} {T : Nat → Prop} (h : TabOk w) (x : Ext T w w') (hT : ¬ T 0) : TabOk w' := fun i hi => by
  rw [World.cell?_of_block (w := w) (x.keep _ h.lt hT)]; exact h i hi
theorem TabOk.keep {w w' : World} (h : TabOk w) (x : Keep w w') : TabOk w' := h.ext x id
theorem TabOk.at {w : World} (h : TabOk w) (r : R32) : w.cell? ((⟨0, 0, none⟩ : Addr).add ((((r &&& 15#32).toNat : Nat) : Int).toNat * 1)) = some (.int .u32 ((tabV (r &&& 15#32).toNat).toNat : Int)) := by
  rw [add_mk, Nat.mul_one, Nat.zero_add, Int.toNat_natCast]
  exact h _ (by rw [and15]; omega)
theorem E8 : ElemInfo Tryz.prog 5 1 1 := ElemInfo.of (z := .int .u8 0) Zl rfl rfl rfl
theorem moreC_cons (r : R32) (c : UInt8) (l : List UInt8) : moreC r (c :: l) = moreC (byteC r c) l := rfl
theorem more_c (r : R32) {lo hi : Nat} {A : Option Addr} {n c : Nat} {l : List UInt8} (w : World) (hs : Sl KB lo hi w A n l) (hT : TabOk w) : Ret Tryz.prog 145 #[.int .u32 (r.toNat : Int), .slice A n c] w fun v w' => v = .int .u32 ((moreC r l).toNat : Int) ∧ Keep w w' := by
 have hl := hs.len
 have hbd := hs.bound
 refine X.enter Tryz.func145 rfl Tryz.ntmps145 rfl<|Zs<|Zr<|Zoa rfl rfl<|Ze<|Zs<|Zs<|Zr<|Zoms rfl rfl<|Zo (X.lenSl Zu43 rfl) rfl<|Zom rfl rfl<|Ze<|Zb<|X.loopL (σ := Nat × R32) (fun s => [(0, .int .u32 (s.2.toNat : Int)), (7, .slice A n c), (8, .int .i64 (n : Int)), (9, .int .i64 (s.1 : Int))]) (fun s w' => s.1 ≤ n ∧ moreC s.2 (l.drop s.1) = moreC r l ∧ Keep w w') (fun s => n - s.1) (0, r) ⟨rfl, rfl, rfl, rfl, trivial⟩ ⟨by simp, by simp, (Keep.refl _)⟩ ?_
 rintro ⟨i, r1⟩ b wl ⟨hi0, hp, hk⟩ hback
 dsimp only
 simp only at hi0 hp
 refine Zs<|Zr<|X.opP X.wN rfl rfl (X.lss rfl rfl) (fun h10 => ?_) (fun h10 => ?_)
 ·obtain ⟨y, hx⟩ := getN i hl h10
  rw [drop_at hx, moreC_cons] at hp
  refine Ze<|Zs<|Zt rfl<|Zk<|Zs<|Zb<|Zs<|Zr<|Zo (X.idxS (hs.keep hk) Zu43 Zs5 rfl rfl ⟨by omega, by omega⟩) rfl<|Zo (X.loadS Zi5 (hs.keep hk) hx rfl (fun _ h => by rw [h.1]; rfl)) rfl ?_
  refine Zoab rfl rfl<|Ze<|Zs<|Zr<|Zomw rfl rfl<|Zomb rfl rfl<|Zo (X.cvI Zu5 Zu68 rfl (cv8_32 _)) rfl<|Zo (X.xor_ rfl rfl (xor32 _ _)) rfl<|Zoaw rfl rfl<|Ze<|Zs<|Zr<|Zomw rfl rfl<|Zo (X.shr rfl rfl (by decide) (shr32 _ 4 (by decide))) rfl<|Zomw rfl rfl<|Zo (X.and_ rfl rfl (and32 _ 15#32)) rfl<|Zo (X.idxArr Tryz.underlying244 Tryz.sizeOf68 rfl rfl ⟨Int.natCast_nonneg _, by rw [and15]; omega⟩) rfl ?_
  refine Zo (X.load1 Tryz.isAgg68 rfl ((hT.keep hk).at _)) rfl<|Zo (X.xor_ rfl rfl (xor32 _ _)) rfl<|Zoaw rfl rfl<|Ze<|Zr<|Zomw rfl rfl<|Zo (X.shr rfl rfl (by decide) (shr32 _ 4 (by decide))) rfl<|Zomw rfl rfl<|Zo (X.and_ rfl rfl (and32 _ 15#32)) rfl<|Zo (X.idxArr Tryz.underlying244 Tryz.sizeOf68 rfl rfl ⟨Int.natCast_nonneg _, by rw [and15]; omega⟩) rfl ?_
  refine Zo (X.load1 Tryz.isAgg68 rfl ((hT.keep hk).at _)) rfl<|Zo (X.xor_ rfl rfl (xor32 _ _)) rfl<|Zoaw rfl rfl<|Ze<|Zi<|Zr<|Zo (X.add rfl rfl (X.w_i64 Zz)) rfl<|Zomi rfl rfl<|Ze ?_
  refine hback (i + 1, byteC r1 y) _ _ ⟨rfl, rfl, rfl, rfl, trivial⟩ ⟨by dsimp only; omega, hp, hk⟩ (by dsimp only; omega)
 ·rw [List.drop_of_length_le Zz] at hp
  refine Ze<|Zs<|Zf rfl<|Zx rfl<|Zs<|Zr<|Zomw rfl rfl<|Zoaw rfl rfl<|Ze<|X.ret1 (v := (.int .u32 _)) Tryz.func145 Tryz.results145 rfl ?_
  exact ⟨by rw [← hp]; rfl, hk⟩
theorem Sum_c {lo hi : Nat} {A : Option Addr} {n c : Nat} {l : List UInt8} (w : World) (hs : Sl KB lo hi w A n l) (hT : TabOk w) : Ret Tryz.prog 106 #[.slice A n c] w fun v w' => v = .int .u32 ((sumC l).toNat : Int) ∧ Keep w w' := by
 refine X.enter Tryz.func106 rfl Tryz.ntmps106 rfl<|Zs<|Zr<|Zoa rfl rfl<|Ze<|Zs<|Zr<|Zoms rfl rfl<|Zc (X.callE (more_c (BitVec.ofNat 32 4294967295) _ hs (hT.keep (Keep.refl _))) Tryz.call145 rfl rfl) rfl ?_
 rintro _ w1 ⟨rfl, hk1⟩
 have hk1' := hk1.size
 refine Zo (X.com rfl (com32 _)) rfl<|Zoaw rfl rfl<|Ze<|X.ret1 (v := (.int .u32 _)) Tryz.func106 Tryz.results106 rfl ?_
 exact ⟨rfl, hk1⟩
theorem step_c (r b : R32) (w : World) : Ret Tryz.prog 146 #[.int .u32 (r.toNat : Int), .int .u32 (b.toNat : Int)] w fun v w' => v = .int .u32 ((rstep r b).toNat : Int) ∧ Keep w w' := by
 refine X.enter Tryz.func146 rfl Tryz.ntmps146 rfl<|Zs<|Zr<|Zoa rfl rfl<|Ze<|Zs<|Zs<|Zr<|Zomw rfl rfl<|Zomw rfl rfl<|Zo (X.xor_ rfl rfl (xor32 _ _)) rfl<|Zo (X.and_ rfl rfl (and32 _ 1#32)) rfl<|X.opP X.wN rfl rfl (X.eqI rfl rfl) (fun h9 => ?_) (fun h9 => ?_)
 ·refine Ze<|Zt rfl<|Zs<|Zr<|Zomw rfl rfl<|Zo (X.shr rfl rfl (by decide) (shr32 _ 1 (by decide))) rfl<|Zo (X.xor_ rfl rfl (xor32 _ 3988292384#32)) rfl<|Zoaw rfl rfl<|Ze<|X.ret1 (v := (.int .u32 _)) Tryz.func146 Tryz.results146 rfl ?_
  exact ⟨by rw [rstep, if_pos (BitVec.eq_of_toNat_eq (show _ = 1 by omega))]; rfl, (Keep.refl _)⟩
 ·refine Ze<|Zf rfl<|Zk<|Zs<|Zr<|Zomw rfl rfl<|Zo (X.shr rfl rfl (by decide) (shr32 _ 1 (by decide))) rfl<|Zoaw rfl rfl<|Ze<|X.ret1 (v := (.int .u32 _)) Tryz.func146 Tryz.results146 rfl ?_
  exact ⟨by rw [rstep, if_neg (fun e => h9 (by rw [e]; rfl))], (Keep.refl _)⟩
theorem shr8 (y : UInt8) (k : Nat) (hk : k < 8) : ((y.toNat : Nat) : Int).fdiv (2 ^ (min ((k : Int)).toNat IntKind.u8.bits)) = ((y.toNat / 2 ^ k : Nat) : Int) := by
  have h : min ((k : Int)).toNat IntKind.u8.bits = k := by show min ((k : Int)).toNat 8 = k; omega
  have e : (2 : Int) ^ k = ((2 ^ k : Nat) : Int) := by rw [Int.natCast_pow]; rfl
  rw [h, e, Int.fdiv_eq_ediv_of_nonneg _ (Int.natCast_nonneg _)]
  rfl
theorem cvK (y : UInt8) (k : Nat) : IntKind.u32.wrap ((y.toNat / 2 ^ k : Nat) : Int) = ((CK y k).toNat : Int) := by
  rw [CK_toNat]; have := y.toNat_lt
  have h2 : y.toNat / 2 ^ k ≤ y.toNat := Nat.div_le_self _ _
  exact w_u32 ⟨Int.natCast_nonneg _, Int.le_trans (Int.ofNat_le.2 h2) Zz⟩
theorem RSum_c {lo hi : Nat} {A : Option Addr} {n c : Nat} {l : List UInt8} (w : World) (hs : Sl KB lo hi w A n l) : Ret Tryz.prog 109 #[.slice A n c] w fun v w' => v = .int .u32 ((sumC l).toNat : Int) ∧ Keep w w' := by
 have hl := hs.len
 have hbd := hs.bound
 refine X.enter Tryz.func109 rfl Tryz.ntmps109 rfl<|Zs<|Zr<|Zoa rfl rfl<|Ze<|Zs<|Zr<|Zoa rfl rfl<|Ze<|Zs<|Zs<|Zr<|Zoa rfl rfl<|Ze<|Zb<|X.loopL (σ := Nat × R32) (fun s => [(0, .slice A n c), (3, .int .u32 (s.2.toNat : Int)), (4, .int .i64 (s.1 : Int))]) (fun s w' => s.1 ≤ n ∧ moreC s.2 (l.drop s.1) = moreC (BitVec.ofNat 32 4294967295) l ∧ Keep w w') (fun s => n - s.1) (0, BitVec.ofNat 32 4294967295) ⟨rfl, rfl, rfl, trivial⟩ ⟨by simp, by simp, (Keep.refl _)⟩ ?_
 rintro ⟨i, r1⟩ b wl ⟨hi0, hp, hk⟩ hback
 dsimp only
 simp only at hi0 hp
 refine Zs<|Zs<|Zr<|Zomi rfl rfl<|Zoms rfl rfl<|Zo (X.lenSl Zu43 rfl) rfl<|X.opP X.wN rfl rfl (X.lss rfl rfl) (fun h9 => ?_) (fun h9 => ?_)
 ·obtain ⟨y, hx⟩ := getN i hl h9
  rw [drop_at hx, moreC_cons] at hp
  refine Ze<|Zt rfl<|Zk<|Zs<|Zb<|Zs<|Zr<|Zoa rfl rfl<|Ze<|Zb<|X.loopL (σ := Nat × R32) (fun s => [(0, .slice A n c), (3, .int .u32 (s.2.toNat : Int)), (4, .int .i64 (i : Int)), (5, .int .i64 (s.1 : Int))]) (fun s w' => s.1 ≤ 8 ∧ stN (8 - s.1) (s.2 ^^^ CK y s.1) = byteC r1 y ∧ Keep w w') (fun s => 8 - s.1) (0, r1) ⟨rfl, rfl, rfl, rfl, trivial⟩ ⟨by simp, bits_first r1 y, hk⟩ ?_
  rintro ⟨k, r2⟩ b wm ⟨hk0, hq, hk⟩ hback2
  dsimp only
  simp only at hk0 hq
  refine Zs<|Zs<|Zr<|Zomi rfl rfl<|X.opP X.wN rfl rfl (X.lss rfl rfl) (fun h13 => ?_) (fun h13 => ?_)
  ·refine Ze<|Zt rfl<|Zk<|Zs<|Zb<|Zr<|Zomw rfl rfl<|Zoms rfl rfl<|Zomi rfl rfl<|Zo (X.idxS (hs.keep hk) Zu43 Zs5 rfl rfl ⟨by omega, by omega⟩) rfl<|Zo (X.loadS Zi5 (hs.keep hk) hx rfl (fun _ h => by rw [h.1]; rfl)) rfl ?_
   refine Zomi rfl rfl<|Zo (X.cvI Zu3 Tryz.underlying77 rfl (X.w_u64 Zz)) rfl<|Zo (X.shr (c := ((y.toNat / 2 ^ k : Nat) : Int)) rfl rfl Zz (shr8 y k Zz)) rfl<|Zo (X.cvI Zu5 Zu68 rfl (cvK y k)) rfl<|Zo (X.and_ rfl rfl (and32 _ 1#32)) rfl<|Zc (X.callE (step_c _ (bitK y k) _) Tryz.call146 rfl rfl) rfl ?_
   rintro _ w1 ⟨rfl, hk1⟩
   have hk1' := hk1.size
   refine Zoaw rfl rfl<|Ze<|Zi<|Zr<|Zomi rfl rfl<|Zo (X.add rfl rfl (X.w_i64 Zz)) rfl<|Zoai rfl rfl<|Ze ?_
   refine hback2 (k + 1, rstep r2 (bitK y k)) _ _ ⟨rfl, rfl, rfl, rfl, trivial⟩ ⟨by dsimp only; omega, bits_next _ r2 y k Zz hq, (hk.trans hk1)⟩ (by dsimp only; omega)
  ·obtain rfl : k = 8 := by omega
   have hr := bits_last hq
   subst hr
   refine Ze<|Zf rfl<|Zx rfl<|Zi<|Zr<|Zomi rfl rfl<|Zo (X.add rfl rfl (X.w_i64 Zz)) rfl<|Zoai rfl rfl<|Ze ?_
   refine hback (i + 1, byteC r1 y) _ _ ⟨rfl, rfl, rfl, trivial⟩ ⟨by dsimp only; omega, hp, hk⟩ (by dsimp only; omega)
 ·rw [List.drop_of_length_le Zz] at hp
  refine Ze<|Zf rfl<|Zx rfl<|Zs<|Zr<|Zomw rfl rfl<|Zo (X.com rfl (com32 _)) rfl<|Zoaw rfl rfl<|Ze<|X.ret1 (v := (.int .u32 _)) Tryz.func109 Tryz.results109 rfl ?_
  exact ⟨by rw [sumC, ← hp]; rfl, hk⟩
theorem four_split {l : List UInt8} {n : Nat} (hl : l.length = n) (h : 4 ≤ n) : ∃ a b c d t, l = a :: b :: c :: d :: t := by
  match l, hl with
  | a :: b :: c :: d :: t, _ => exact ⟨a, b, c, d, t, rfl⟩
  | [], e => simp at e; omega
  | [a], e => simp at e; omega
  | [a, b], e => simp at e; omega
  | [a, b, c], e => simp at e; omega
theorem low_c (r : R32) (w : World) : Ret Tryz.prog 105 #[.int .u32 (r.toNat : Int)] w fun v w' => Fresh KB 5 w w' v (lowC r) := by
 refine X.enter Tryz.func105 rfl Tryz.ntmps105 rfl<|Zs<|Zr<|Zoa rfl rfl<|Ze<|Zs<|Zr<|Zomw rfl rfl<|Zo (X.cvI Zu68 Zu5 rfl (cv32_8 _)) rfl<|Zomw rfl rfl<|Zo (X.shr rfl rfl (by decide) (shr32 _ 8 (by decide))) rfl<|Zo (X.cvI Zu68 Zu5 rfl (cv32_8 _)) rfl<|Zomw rfl rfl<|Zo (X.shr rfl rfl (by decide) (shr32 _ 16 (by decide))) rfl<|Zo (X.cvI Zu68 Zu5 rfl (cv32_8 _)) rfl<|Zomw rfl rfl<|Zo (X.shr rfl rfl (by decide) (shr32 _ 24 (by decide))) rfl<|Zo (X.cvI Zu68 Zu5 rfl (cv32_8 _)) rfl<|Zc (X.litKE (K := KB) (xs := [Operand.tmp 4, Operand.tmp 7, Operand.tmp 10, Operand.tmp 13]) (vs := [.int .u8 ((UInt8.ofNat r.toNat).toNat : Int), .int .u8 ((UInt8.ofNat (r >>> 8).toNat).toNat : Int), .int .u8 ((UInt8.ofNat (r >>> 16).toNat).toNat : Int), .int .u8 ((UInt8.ofNat (r >>> 24).toNat).toNat : Int)]) (ys := [UInt8.ofNat r.toNat, UInt8.ofNat (r >>> 8).toNat, UInt8.ofNat (r >>> 16).toNat, UInt8.ofNat (r >>> 24).toNat]) Zu43 Zs5 Zv5 rfl rfl rfl rfl rfl (repsB [UInt8.ofNat r.toNat, UInt8.ofNat (r >>> 8).toNat, UInt8.ofNat (r >>> 16).toNat, UInt8.ofNat (r >>> 24).toNat])) rfl ?_
 rintro _ w1 ⟨rfl, hs1, hB1, hk1, hz1⟩
 refine Zoa rfl rfl<|Ze<|X.ret1 Tryz.func105 Tryz.results105 rfl ?_
 exact ⟨(Mine.litV (vs := [.int .u8 ((UInt8.ofNat r.toNat).toNat : Int), .int .u8 ((UInt8.ofNat (r >>> 8).toNat).toNat : Int), .int .u8 ((UInt8.ofNat (r >>> 16).toNat).toNat : Int), .int .u8 ((UInt8.ofNat (r >>> 24).toNat).toNat : Int)]) (w0 := w) KB_flat hB1 (repsB [UInt8.ofNat r.toNat, UInt8.ofNat (r >>> 8).toNat, UInt8.ofNat (r >>> 16).toNat, UInt8.ofNat (r >>> 24).toNat]) rfl Zz zq34), hk1⟩
theorem four_c (r : R32) (w : World) : Ret Tryz.prog 108 #[.int .u32 (r.toNat : Int)] w fun v w' => Fresh KB 5 w w' v (lowC r) := by
 refine X.enter Tryz.func108 rfl Tryz.ntmps108 rfl<|Zs<|Zr<|Zoa rfl rfl<|Ze<|Zs<|Zr<|Zomw rfl rfl<|Zo (X.cvI Zu68 Zu5 rfl (cv32_8 _)) rfl<|Zomw rfl rfl<|Zo (X.shr rfl rfl (by decide) (shr32 _ 8 (by decide))) rfl<|Zo (X.cvI Zu68 Zu5 rfl (cv32_8 _)) rfl<|Zomw rfl rfl<|Zo (X.shr rfl rfl (by decide) (shr32 _ 16 (by decide))) rfl<|Zo (X.cvI Zu68 Zu5 rfl (cv32_8 _)) rfl<|Zomw rfl rfl<|Zo (X.shr rfl rfl (by decide) (shr32 _ 24 (by decide))) rfl<|Zo (X.cvI Zu68 Zu5 rfl (cv32_8 _)) rfl<|Zc (X.litKE (K := KB) (xs := [Operand.tmp 4, Operand.tmp 7, Operand.tmp 10, Operand.tmp 13]) (vs := [.int .u8 ((UInt8.ofNat r.toNat).toNat : Int), .int .u8 ((UInt8.ofNat (r >>> 8).toNat).toNat : Int), .int .u8 ((UInt8.ofNat (r >>> 16).toNat).toNat : Int), .int .u8 ((UInt8.ofNat (r >>> 24).toNat).toNat : Int)]) (ys := [UInt8.ofNat r.toNat, UInt8.ofNat (r >>> 8).toNat, UInt8.ofNat (r >>> 16).toNat, UInt8.ofNat (r >>> 24).toNat]) Zu43 Zs5 Zv5 rfl rfl rfl rfl rfl (repsB [UInt8.ofNat r.toNat, UInt8.ofNat (r >>> 8).toNat, UInt8.ofNat (r >>> 16).toNat, UInt8.ofNat (r >>> 24).toNat])) rfl ?_
 rintro _ w1 ⟨rfl, hs1, hB1, hk1, hz1⟩
 refine Zoa rfl rfl<|Ze<|X.ret1 Tryz.func108 Tryz.results108 rfl ?_
 exact ⟨(Mine.litV (vs := [.int .u8 ((UInt8.ofNat r.toNat).toNat : Int), .int .u8 ((UInt8.ofNat (r >>> 8).toNat).toNat : Int), .int .u8 ((UInt8.ofNat (r >>> 16).toNat).toNat : Int), .int .u8 ((UInt8.ofNat (r >>> 24).toNat).toNat : Int)]) (w0 := w) KB_flat hB1 (repsB [UInt8.ofNat r.toNat, UInt8.ofNat (r >>> 8).toNat, UInt8.ofNat (r >>> 16).toNat, UInt8.ofNat (r >>> 24).toNat]) rfl Zz zq34), hk1⟩
theorem number_c {lo hi : Nat} {A : Option Addr} {n c : Nat} {l : List UInt8} (w : World) (hs : Sl KB lo hi w A n l) (h4 : 4 ≤ n) : Ret Tryz.prog 125 #[.slice A n c] w fun v w' => v = .int .u32 ((numC l).toNat : Int) ∧ Keep w w' := by
 obtain ⟨x0, x1, x2, x3, t, rfl⟩ := four_split hs.len h4
 refine X.enter Tryz.func125 rfl Tryz.ntmps125 rfl<|Zs<|Zr<|Zoa rfl rfl<|Ze<|Zs<|X.regionD (fun _ => False) 22 Zl Zl (fun w1 hk1 hz1 => ?_)
 refine ZDc 0 rfl Zl (Zdms rfl)<|ZD 1 rfl Zl (fun w' hk' => X.idxS (hs.keep (hk1.trans hk')) Zu43 Zs5 rfl rfl ⟨by omega, by omega⟩)<|ZD 2 rfl Zl (fun w' hk' => X.loadS Zi5 (hs.keep (hk1.trans hk')) (j := 0) rfl rfl (fun _ h => by rw [h.1]; rfl)) ?_
 refine ZDc 3 rfl Zl (X.cvI Zu5 Zu68 rfl (cv8_32 _))<|ZDc 4 rfl Zl (Zdms rfl)<|ZD 5 rfl Zl (fun w' hk' => X.idxS (hs.keep (hk1.trans hk')) Zu43 Zs5 rfl rfl ⟨by omega, by omega⟩)<|ZD 6 rfl Zl (fun w' hk' => X.loadS Zi5 (hs.keep (hk1.trans hk')) (j := 1) rfl rfl (fun _ h => by rw [h.1]; rfl)) ?_
 refine ZDc 7 rfl Zl (X.cvI Zu5 Zu68 rfl (cv8_32 _))<|ZDc 8 rfl Zl (X.shl rfl rfl (by decide) (shl32 _ 8 (by decide)))<|ZDc 9 rfl Zl (X.or_ rfl rfl (or32 _ _))<|ZDc 10 rfl Zl (Zdms rfl)<|ZD 11 rfl Zl (fun w' hk' => X.idxS (hs.keep (hk1.trans hk')) Zu43 Zs5 rfl rfl ⟨by omega, by omega⟩)<|ZD 12 rfl Zl (fun w' hk' => X.loadS Zi5 (hs.keep (hk1.trans hk')) (j := 2) rfl rfl (fun _ h => by rw [h.1]; rfl)) ?_
 refine ZDc 13 rfl Zl (X.cvI Zu5 Zu68 rfl (cv8_32 _))<|ZDc 14 rfl Zl (X.shl rfl rfl (by decide) (shl32 _ 16 (by decide)))<|ZDc 15 rfl Zl (X.or_ rfl rfl (or32 _ _))<|ZDc 16 rfl Zl (Zdms rfl)<|ZD 17 rfl Zl (fun w' hk' => X.idxS (hs.keep (hk1.trans hk')) Zu43 Zs5 rfl rfl ⟨by omega, by omega⟩)<|ZD 18 rfl Zl (fun w' hk' => X.loadS Zi5 (hs.keep (hk1.trans hk')) (j := 3) rfl rfl (fun _ h => by rw [h.1]; rfl)) ?_
 refine ZDc 19 rfl Zl (X.cvI Zu5 Zu68 rfl (cv8_32 _))<|ZDc 20 rfl Zl (X.shl rfl rfl (by decide) (shl32 _ 24 (by decide)))<|ZDc 21 rfl Zl (X.or_ rfl rfl (or32 _ _))<|X.dStep (i := 22) Zl rfl (X.dwN rfl) (X.assign (v := .int .u32 _) rfl) (fun h => absurd h (by decide))<|Zdend Zl<|X.ret1 (v := (.int .u32 _)) Tryz.func125 Tryz.results125 rfl ?_
 exact ⟨rfl, hk1⟩
theorem Grow_c (m : Int) (h0 : 0 ≤ m) (h1 : m ≤ 100000000) (w : World) : Ret Tryz.prog 144 #[.slice none 0 0, .int .i64 m] w fun v w' => Fresh KB 5 w w' v [] := by
 refine X.enter Tryz.func144 rfl Tryz.ntmps144 rfl<|Zs<|Zr<|Zoa rfl rfl<|Ze<|Zs<|Zs<|Zr<|Zomi rfl rfl<|X.opP X.wN rfl rfl (X.lss rfl rfl) (fun h6 => ?_) (fun h6 => ?_)
 ·omega
 ·refine Ze<|Zf rfl<|Zk<|Zs<|Zs<|Zr<|Zomi rfl rfl<|Zom rfl rfl<|Zo (X.capSl Zu43 rfl) rfl<|Zom rfl rfl<|Zo (X.lenSl Zu43 rfl) rfl<|Zo (X.sub rfl rfl (X.w_i64 Zz)) rfl<|Zo (X.sub rfl rfl (X.w_i64 Zz)) rfl<|Zoai rfl rfl<|Ze<|Zs<|Zr<|Zomi rfl rfl<|X.opP X.wN rfl rfl (X.gtr rfl rfl) (fun h16 => ?_) (fun h16 => ?_)
  ·refine Ze<|Zt rfl<|Zr<|Zom rfl rfl<|Zom rfl rfl<|Zo (X.capSl Zu43 rfl) rfl<|Zo (X.cutHr Zu43 Zs5 rfl rfl Zz) rfl<|Zomi rfl rfl<|Zc (X.appMkE Zu43 Zu3 E8 rfl rfl Zz Zz) rfl ?_
   rintro _ w1 ⟨cap1, rfl, hcap1, hN1, hk1, hz1⟩
   refine Zom rfl rfl<|Zo (X.lenSl Zu43 rfl) rfl<|Zo (X.cutHr Zu43 Zs5 rfl rfl Zz) rfl<|Zoa rfl rfl<|Ze<|Zs<|Zr<|Zom rfl rfl<|Zoa rfl rfl<|Ze<|X.ret1 Tryz.func144 Tryz.results144 rfl ?_
   exact ⟨(X.NewRow.mine (K := KB) hN1 zq34), hk1⟩
  ·refine Ze<|Zf rfl<|Zk<|Zs<|Zr<|Zom rfl rfl<|Zoa rfl rfl<|Ze<|X.ret1 Tryz.func144 Tryz.results144 rfl ?_
   exact ⟨(Mine.nil KB 5 (fun k => w.heap.size ≤ k) 0 0 w), (Keep.refl _)⟩
theorem Clone_c_crc {lo hi : Nat} {A : Option Addr} {n c : Nat} {l : List UInt8} (w : World) (hs : Sl KB lo hi w A n l) (hn : n ≤ 100000000) : Ret Tryz.prog 87 #[.slice A n c] w fun r w' => Fresh KB 5 w w' r l := by
 have hl := hs.len
 refine X.enter Zf87 rfl Tryz.ntmps87 rfl<|Zs<|Zr<|Zoa rfl rfl<|Ze<|Zs<|Zs<|Zr<|Zoms rfl rfl<|X.opB X.wN rfl rfl (X.eqNil Zu43 rfl rfl) (fun h4 => ?_) (fun h4 => ?_)
 ·refine Ze<|Zt rfl<|Zs<|Zr<|Zoa rfl rfl<|Ze<|X.ret1 Zf87 Tryz.results87 rfl ?_
  refine ⟨?_, (Keep.refl _)⟩
  rcases Nat.eq_zero_or_pos n with h | h
  ·have hq : l = [] := List.eq_nil_of_length_eq_zero Zz
   subst hq; exact (Mine.nil _ _ _ _ _ _)
  ·obtain ⟨ad, e, _⟩ := hs.at_ h
   subst e; simp at h4
 ·refine Ze<|Zf rfl<|Zk<|Zs<|Zr<|Zc (X.lit0E (K := KB) (S := fun k => w.heap.size ≤ k) Zu43 Zs5 zq34) rfl ?_
  rintro v1 w1 ⟨hM1, hk1, hz1⟩
  refine Zoms rfl rfl<|Zc (X.appE (K := KB) (S := fun k => w.heap.size ≤ k) KB_flat Zu43 E8 rfl rfl hM1 (hs.keep hk1) zq15 zq34) rfl ?_
  rintro v2 w2 ⟨hM2, hx2⟩
  have hx2' := hx2.size
  refine Zoa rfl rfl<|Ze<|X.ret1 Zf87 Tryz.results87 rfl ?_
  exact ⟨hM2, (hk1.step hx2 zq34)⟩
theorem flat_at {ls : List (List UInt8)} {i : Nat} {x : List UInt8} (h : ls[i]? = some x) : (ls.take (i + 1)).flatten = (ls.take i).flatten ++ x := by
  rw [take_at h, List.flatten_append]; simp
theorem flat_le {ls : List (List UInt8)} {i : Nat} {x : List UInt8} (h : ls[i]? = some x) : (ls.take i).flatten.length + x.length ≤ ls.flatten.length := by
  have e : ls.flatten = (ls.take (i + 1)).flatten ++ (ls.drop (i + 1)).flatten := by rw [← List.flatten_append, List.take_append_drop]
  rw [e, flat_at h]; simp
theorem Concat_c {lo hi lo2 hi2 : Nat} {A : Option Addr} {n c : Nat} {vs : List Value} {ls : List (List UInt8)} (w : World) (hs : Sl KR1 lo hi w A n vs) (hr : SlRows KB lo2 hi2 w vs ls) (hn : ls.flatten.length ≤ 10000000) : Ret Tryz.prog 104 #[.slice A n c] w fun r w' => Fresh KB 5 w w' r ls.flatten := by
 have hl := hs.len
 have hll := hr.len
 have hbd := hs.bound
 refine X.enter Tryz.func104 rfl Tryz.ntmps104 rfl<|Zs<|Zr<|Zoa rfl rfl<|Ze<|Zs<|Zr<|Zoa rfl rfl<|Ze<|Zs<|Zs<|Zr<|Zoms rfl rfl<|Zo (X.lenSl Zu222 rfl) rfl<|Zom rfl rfl<|Ze<|Zb<|X.loopL (σ := Nat) (fun s => [(0, .slice A n c), (3, .int .i64 (((ls.take s).flatten.length : Nat) : Int)), (9, .slice A n c), (10, .int .i64 (n : Int)), (11, .int .i64 (s : Int))]) (fun s w' => s ≤ n ∧ Keep w w') (fun s => n - s) 0 ⟨rfl, rfl, rfl, rfl, rfl, trivial⟩ ⟨by simp, (Keep.refl _)⟩ ?_
 rintro i b wl ⟨hi0, hk⟩ hback
 have hk' := hk.size
 refine Zs<|Zr<|X.opP X.wN rfl rfl (X.lss rfl rfl) (fun h12 => ?_) (fun h12 => ?_)
 ·obtain ⟨y, hx⟩ := getN i hl h12
  obtain ⟨x, A1, n1, c1, hy2, rfl, hc1, hs1⟩ := hr.get hx
  have hfl := flat_le hy2
  have hs1l := hs1.len
  refine Ze<|Zs<|Zt rfl<|Zk<|Zs<|Zb<|Zs<|Zr<|Zo (X.idxS (hs.keep hk) Zu222 Zs43 rfl rfl ⟨by omega, by omega⟩) rfl<|Zo (X.loadS Tryz.isAgg43 (hs.keep hk) hx rfl (fun _ h => by rw [h.1]; rfl)) rfl ?_
  refine Zoa rfl rfl<|Ze<|Zs<|Zr<|Zomi rfl rfl<|Zom rfl rfl<|Zo (X.lenSl Zu43 rfl) rfl<|Zo (X.add (c := (((ls.take (i + 1)).flatten.length : Nat) : Int)) rfl rfl (by rw [flat_at hy2, List.length_append, X.w_i64 Zz]; omega)) rfl ?_
  refine Zoai rfl rfl<|Ze<|Zs<|Zr<|Zomi rfl rfl<|X.opP X.wN rfl rfl (X.lss rfl rfl) (fun h20 => ?_) (fun h20 => ?_)
  ·omega
  ·refine Ze<|Zf rfl<|Zk<|Zi<|Zr<|Zo (X.add rfl rfl (X.w_i64 Zz)) rfl<|Zomi rfl rfl<|Ze ?_
   refine hback (i + 1) _ _ ⟨rfl, rfl, rfl, rfl, rfl, trivial⟩ ⟨by omega, hk⟩ Zz
 ·have hfe : (ls.take i).flatten.length = ls.flatten.length := by rw [List.take_of_length_le Zz]
  refine Ze<|Zs<|Zf rfl<|Zx rfl<|Zs<|Zr<|Zomi rfl rfl<|Zc (X.callE (Grow_c _ Zz Zz _) Tryz.call144 rfl rfl) rfl ?_
  rintro v1 w1 ⟨hM1, hk1⟩
  have hk1' := hk1.size
  refine Zoa rfl rfl<|Ze<|Zs<|Zs<|Zr<|Zoms rfl rfl<|Zo (X.lenSl Zu222 rfl) rfl<|Zom rfl rfl<|Ze<|Zb<|X.loopL (σ := Nat × Value) (fun s => [(6, s.2), (25, .slice A n c), (26, .int .i64 (n : Int)), (27, .int .i64 (s.1 : Int))]) (fun s w' => s.1 ≤ n ∧ Mine KB 5 (fun k => w.heap.size ≤ k) 0 0 w' s.2 (ls.take s.1).flatten ∧ Keep w w') (fun s => n - s.1) (0, _) ⟨rfl, rfl, rfl, rfl, trivial⟩ ⟨by simp, by dsimp only; exact hM1.step (fun k h => by (try simp only [] at *); omega), (hk.trans hk1)⟩ ?_
  rintro ⟨i, v⟩ b wl ⟨hi0, hM, hk⟩ hback
  dsimp only
  simp only at hi0 hM
  have hk' := hk.size
  refine Zs<|Zr<|X.opP X.wN rfl rfl (X.lss rfl rfl) (fun h28 => ?_) (fun h28 => ?_)
  ·obtain ⟨y, hx⟩ := getN i hl h28
   obtain ⟨x, A1, n1, c1, hy2, rfl, hc1, hs1⟩ := hr.get hx
   have hfl := flat_le hy2
   have hs1l := hs1.len
   refine Ze<|Zs<|Zt rfl<|Zk<|Zs<|Zb<|Zs<|Zr<|Zo (X.idxS (hs.keep hk) Zu222 Zs43 rfl rfl ⟨by omega, by omega⟩) rfl<|Zo (X.loadS Tryz.isAgg43 (hs.keep hk) hx rfl (fun _ h => by rw [h.1]; rfl)) rfl ?_
   refine Zoas rfl rfl<|Ze<|Zr<|Zom rfl rfl<|Zoms rfl rfl<|Zc (X.appE (K := KB) (S := fun k => w.heap.size ≤ k) KB_flat Zu43 E8 rfl rfl hM (hs1.keep hk) zq15 zq34) rfl ?_
   rintro v2 w2 ⟨hM2, hx2⟩
   have hx2' := hx2.size
   refine Zoa rfl rfl<|Ze<|Zi<|Zr<|Zo (X.add rfl rfl (X.w_i64 Zz)) rfl<|Zomi rfl rfl<|Ze ?_
   refine hback (i + 1, _) _ _ ⟨rfl, rfl, rfl, rfl, trivial⟩ ⟨by dsimp only; omega, by dsimp only; rw [flat_at hy2]; exact hM2, (hk.step hx2 zq34)⟩ (by dsimp only; omega)
  ·refine Ze<|Zs<|Zf rfl<|Zx rfl<|Zs<|Zr<|Zom rfl rfl<|Zoa rfl rfl<|Ze<|X.ret1 Tryz.func104 Tryz.results104 rfl ?_
   refine ⟨?_, hk⟩
   rw [List.take_of_length_le Zz] at hM
   exact hM
theorem seal_flat (l : List UInt8) : sealC l = [l, lowC (sumC l)].flatten := by simp [sealC]
theorem open_sh {l : List UInt8} {n : Nat} (hl : l.length = n) (h : (n : Int) - 4 < 0) : openC l = (41, []) := by rw [openC, if_pos Zz]
theorem open_bad {l : List UInt8} {n : Nat} (hl : l.length = n) (h : ¬ (n : Int) - 4 < 0) (h2 : ((sumC (l.take ((n : Int) - 4).toNat)).toNat : Int) ≠ ((numC (l.drop ((n : Int) - 4).toNat)).toNat : Int)) : openC l = (40, []) := by
  rw [show ((n : Int) - 4).toNat = l.length - 4 by omega] at h2
  rw [openC, if_neg Zz, if_neg (fun e => h2 (by rw [e]))]
theorem open_ok {l : List UInt8} {n : Nat} (hl : l.length = n) (h : ¬ (n : Int) - 4 < 0) (h2 : ¬ ((sumC (l.take ((n : Int) - 4).toNat)).toNat : Int) ≠ ((numC (l.drop ((n : Int) - 4).toNat)).toNat : Int)) : openC l = (0, l.take ((n : Int) - 4).toNat) := by
  rw [show ((n : Int) - 4).toNat = l.length - 4 by omega] at h2 ⊢
  rw [openC, if_neg Zz, if_pos (BitVec.eq_of_toNat_eq Zz)]
theorem Seal_c {lo hi : Nat} {A : Option Addr} {n c : Nat} {l : List UInt8} (w : World) (hs : Sl KB lo hi w A n l) (hhi : hi ≤ w.heap.size) (hnc : n ≤ c) (hn : n ≤ 2000000) (hT : TabOk w) : Ret Tryz.prog 54 #[.slice A n c] w fun r w' => Fresh KB 5 w w' r (sealC l) := by
 have hl := hs.len
 have hlo : (lowC (sumC l)).length = 4 := rfl
 refine X.enter Tryz.func54 rfl Tryz.ntmps54 rfl<|Zs<|Zr<|Zoa rfl rfl<|Ze<|Zs<|Zr<|Zoms rfl rfl<|Zoms rfl rfl<|Zc (X.callE (Sum_c _ hs (hT.keep (Keep.refl _))) Tryz.call106 rfl rfl) rfl ?_
 rintro _ w1 ⟨rfl, hk1⟩
 have hk1' := hk1.size
 refine Zc (X.callE ((low_c _ _).mono freshB) Tryz.call105 rfl rfl) rfl ?_
 rintro _ w2 ⟨A2, c2, rfl, hc2, hs2, hM2, hk2⟩
 have hk2' := hk2.size
 refine Zc (X.litKE (K := KR1) (xs := [Operand.tmp 3, Operand.tmp 6]) (vs := [.slice A n c, .slice A2 (lowC (sumC l)).length c2]) (ys := [.slice A n c, .slice A2 (lowC (sumC l)).length c2]) Zu222 Zs43 Tryz.zeroValue43 rfl rfl rfl rfl rfl ⟨⟨_, rfl, rfl, rfl⟩, ⟨_, rfl, rfl, rfl⟩, trivial⟩) rfl ?_
 rintro _ w3 ⟨rfl, hs3, hB3, hk3, hz3⟩
 refine Zc (X.callE (Concat_c (lo2 := 0) (hi2 := w3.heap.size) (ls := [l, lowC (sumC l)]) _ hs3 ⟨⟨A, n, c, rfl, hnc, ((hs.keep ((hk1.trans hk2).trans hk3)).wide (Nat.zero_le _) Zz)⟩, ⟨_, _, _, rfl, hc2, ((hs2.keep hk3).wide (Nat.zero_le _) Zz)⟩, trivial⟩ (by simp only [List.flatten_cons, List.flatten_nil, List.length_append, List.length_nil, hlo, hl]; omega)) Tryz.call104 rfl rfl) rfl ?_
 rintro v4 w4 ⟨hM4, hk4⟩
 have hk4' := hk4.size
 refine Zoa rfl rfl<|Ze<|X.ret1 Tryz.func54 Tryz.results54 rfl ?_
 exact ⟨by rw [seal_flat]; exact (hM4.step (T := fun k => w.heap.size ≤ k) (fun k h => by (try simp only [] at *); omega)), (((hk1.trans hk2).trans hk3).trans hk4)⟩
theorem RSeal_c {lo hi : Nat} {A : Option Addr} {n c : Nat} {l : List UInt8} (w : World) (hs : Sl KB lo hi w A n l) (hn : n ≤ 2000000) : Ret Tryz.prog 59 #[.slice A n c] w fun r w' => Fresh KB 5 w w' r (sealC l) := by
 have hl := hs.len
 have hlo : (lowC (sumC l)).length = 4 := rfl
 refine X.enter Tryz.func59 rfl Tryz.ntmps59 rfl<|Zs<|Zr<|Zoa rfl rfl<|Ze<|Zs<|Zr<|Zc (X.lit0E (K := KB) (S := fun k => w.heap.size ≤ k) Zu43 Zs5 zq34) rfl ?_
 rintro v1 w1 ⟨hM1, hk1, hz1⟩
 refine Zoms rfl rfl<|Zc (X.appE (K := KB) (S := fun k => w.heap.size ≤ k) KB_flat Zu43 E8 rfl rfl hM1 (hs.keep hk1) zq15 zq34) rfl ?_
 rintro v2 w2 ⟨hM2, hx2⟩
 have hx2' := hx2.size
 refine Zoms rfl rfl<|Zc (X.callE (RSum_c _ (hs.keep (hk1.step hx2 zq34))) Tryz.call109 rfl rfl) rfl ?_
 rintro _ w3 ⟨rfl, hk3⟩
 have hk3' := hk3.size
 refine Zc (X.callE ((four_c _ _).mono freshB) Tryz.call108 rfl rfl) rfl ?_
 rintro _ w4 ⟨A4, c4, rfl, hc4, hs4, hM4, hk4⟩
 have hk4' := hk4.size
 refine Zc (X.appE (K := KB) (S := fun k => w.heap.size ≤ k) KB_flat Zu43 E8 rfl rfl (hM2.keep (hk3.trans hk4)) hs4 zq15 zq34) rfl ?_
 rintro v5 w5 ⟨hM5, hx5⟩
 have hx5' := hx5.size
 refine Zoa rfl rfl<|Ze<|X.ret1 Tryz.func59 Tryz.results59 rfl ?_
 exact ⟨(hM5.step (T := fun k => w.heap.size ≤ k) (fun k h => by (try simp only [] at *); omega)), ((((hk1.step hx2 zq34).trans hk3).trans hk4).step hx5 zq34)⟩
theorem Open_c {lo hi : Nat} {A : Option Addr} {n c : Nat} {l : List UInt8} (w : World) (hs : Sl KB lo hi w A n l) (hnc : n ≤ c) (hn : n ≤ 2000000) (hT : TabOk w) : Ret Tryz.prog 92 #[.slice A n c] w fun r w' => ∃ v, r = .tuple #[v, .int .i64 (openC l).1] ∧ Fresh KB 5 w w' v (openC l).2 := by
 have hl := hs.len
 refine X.enter Zf92 rfl Tryz.ntmps92 rfl<|Zs<|Zr<|Zoa rfl rfl<|Zoa rfl rfl<|Ze<|Zs<|Zr<|Zoms rfl rfl<|Zo (X.lenSl Zu43 rfl) rfl<|Zo (X.sub rfl rfl (X.w_i64 Zz)) rfl<|Zoai rfl rfl<|Ze<|Zs<|Zb<|Zs<|Zr<|Zomi rfl rfl<|X.opP X.wN rfl rfl (X.lss rfl rfl) (fun h10 => ?_) (fun h10 => ?_)
 ·refine Zoat rfl rfl<|Ze<|Zt rfl<|Zs<|Zr<|Zoa rfl rfl<|Zoa rfl rfl<|Ze<|X.ret2 (v2 := (.int .i64 _)) Zf92 Zr92 rfl rfl ?_
  rw [open_sh hl h10]
  exact ⟨_, rfl, ((Mine.nil _ _ _ _ _ _).step (T := fun k => w.heap.size ≤ k) (fun k h => by (try simp only [] at *); omega)), (Keep.refl _)⟩
 ·refine Zoaf rfl rfl<|Ze<|Zf rfl<|Zs<|X.regionD (fun _ => False) 10 Zl Zl (fun w1 hk1 hz1 => ?_)
  refine ZDc 0 rfl Zl (Zdms rfl)<|ZDc 1 rfl Zl (Zdmi rfl)<|ZDc 2 rfl Zl (X.cutHr Zu43 Zs5 rfl rfl Zz)<|ZDc 4 rfl Zl (Zdms rfl)<|ZDc 5 rfl Zl (Zdmi rfl)<|ZDc 6 rfl Zl (X.cutL Zu43 Zs5 rfl rfl Zz)<|X.dE (i := 3) Zl rfl (X.dwN rfl) (X.callE (Sum_c _ ((hs.take ((n : Int) - 4).toNat Zz).keep hk1) (hT.keep hk1)) Tryz.call106 rfl rfl) (by rintro _ w2 ⟨rfl, hk2⟩ _; exact hk2.mono (fun _ _ h => h.elim)) ?_
  rintro _ w2 ⟨rfl, hk2⟩
  have hk2' := hk2.size
  refine X.dE (i := 7) Zl rfl (X.dwN rfl) (X.callE (number_c _ ((hs.drop ((n : Int) - 4).toNat c Zz hnc).keep (hk1.trans hk2)) Zz) Tryz.call125 rfl rfl) (by rintro _ w3 ⟨rfl, hk3⟩ _; exact hk3.mono (fun _ _ h => h.elim)) ?_
  rintro _ w3 ⟨rfl, hk3⟩
  have hk3' := hk3.size
  refine ZDc 8 rfl Zl (X.neI rfl rfl)<|ZDc 9 rfl Zl (Zdao rfl)<|Zdend Zl<|X.condB rfl (fun hc => ?_) (fun hc => ?_)
  ·refine Zs<|Zr<|Zoa rfl rfl<|Zoa rfl rfl<|Ze<|X.ret2 (v2 := (.int .i64 _)) Zf92 Zr92 rfl rfl ?_
   rw [open_bad hl h10 (of_decide_eq_true hc)]
   exact ⟨_, rfl, ((Mine.nil _ _ _ _ _ _).step (T := fun k => w.heap.size ≤ k) (fun k h => by (try simp only [] at *); omega)), ((hk1.trans hk2).trans hk3)⟩
  ·refine Zk<|Zi<|Zs<|Zr<|Zoms rfl rfl<|Zomi rfl rfl<|Zo (X.cutHr Zu43 Zs5 rfl rfl Zz) rfl<|Zc (X.callE ((Clone_c_crc _ ((hs.take ((n : Int) - 4).toNat Zz).keep ((hk1.trans hk2).trans hk3)) Zz).mono freshB) Tryz.call87 rfl rfl) rfl ?_
   rintro _ w4 ⟨A4, c4, rfl, hc4, hs4, hM4, hk4⟩
   have hk4' := hk4.size
   refine Zoa rfl rfl<|Zoa rfl rfl<|Ze<|X.ret2 (v2 := (.int .i64 _)) Zf92 Zr92 rfl rfl ?_
   rw [open_ok hl h10 (of_decide_eq_false hc)]
   exact ⟨_, rfl, (hM4.step (T := fun k => w.heap.size ≤ k) (fun k h => by (try simp only [] at *); omega)), (((hk1.trans hk2).trans hk3).trans hk4)⟩
theorem seal_len (l : List UInt8) : (sealC l).length = l.length + 4 := by simp [sealC, lowC]
theorem C32_at (c : UInt8) (i : Nat) : (C32 c).getLsbD i = (decide (i < 32) && c.toNat.testBit i) := by
  rw [C32, BitVec.getLsbD_ofNat]
theorem num_low (r : R32) : numC (lowC r) = r := by
  show num4 _ _ _ _ = r
  apply BitVec.eq_of_getLsbD_eq
  intro i hi
  have h8 : ∀ (x : R32) (j : Nat), (C32 (UInt8.ofNat x.toNat)).getLsbD j = (decide (j < 8) && x.getLsbD j) := by
    intro x j
    rw [C32_at, UInt8.toNat_ofNat', show (2 : Nat) ^ 8 = 2 ^ 8 from rfl, Nat.testBit_mod_two_pow]
    by_cases h : j < 8
    · simp [h, show j < 32 by omega, BitVec.getLsbD]
    · simp [h]
  simp only [num4, BitVec.getLsbD_or, BitVec.getLsbD_shiftLeft, h8, BitVec.getLsbD_ushiftRight, hi, decide_true, Bool.true_and]
  by_cases h1 : i < 8
  · simp [h1, show i < 16 by omega, show i < 24 by omega]
  · by_cases h2 : i < 16
    · simp [h1, h2, show i - 8 < 8 by omega, show i < 24 by omega, show 8 + (i - 8) = i by omega]
    · by_cases h3 : i < 24
      · simp [h1, h2, h3, show ¬ i - 8 < 8 by omega, show i - 16 < 8 by omega, show 16 + (i - 16) = i by omega]
      · simp [h1, h2, h3, show ¬ i - 8 < 8 by omega, show ¬ i - 16 < 8 by omega, show i - 24 < 8 by omega, show 24 + (i - 24) = i by omega]
theorem open_seal (l : List UInt8) : openC (sealC l) = (0, l) := by
  have h := seal_len l
  have h1 : (sealC l).take ((sealC l).length - 4) = l := by rw [h, Nat.add_sub_cancel, sealC, List.take_left]
  have h2 : (sealC l).drop ((sealC l).length - 4) = lowC (sumC l) := by rw [h, Nat.add_sub_cancel, sealC, List.drop_left]
  rw [openC, if_neg Zz, h1, h2, num_low, if_pos rfl]
def HdC (lo hi : Nat) (w : World) (L : List CT) (l : List CD) : Prop := L.length = l.length ∧ ∀ (i : Nat) (x : CT), L[i]? = some x → ∃ q, l[i]? = some q ∧ x.2 = q.2 ∧ okI q.2 ∧ x.1.2.1 ≤ x.1.2.2 ∧ Sl KV lo hi w x.1.1 x.1.2.1 q.1
theorem kc_hd {lo hi : Nat} {w : World} {A : Option Addr} {n : Nat} {l : List CD} (h : Sl KC lo hi w A n l) : ∃ L, Sl KCt lo hi w A n L ∧ HdC lo hi w L l := by
  rcases Nat.eq_zero_or_pos n with hn | hn
  · subst hn
    have : l = [] := List.eq_nil_of_length_eq_zero h.len
    subst this
    exact ⟨[], Sl.nil _ _ _ _ _, rfl, fun i x hx => by simp at hx⟩
  obtain ⟨ad, e, h1, h2, hc⟩ := h.at_ hn
  obtain ⟨L, q1, q2⟩ := list_choose (l := l) (β := CT) (Q := fun j x y => (∀ i u, ([.slice y.1.1 y.1.2.1 y.1.2.2, .int .i64 y.2] : List Value)[i]? = some u → w.cell? (ad.add (j * 2 + i)) = some u) ∧ y.2 = x.2 ∧ okI x.2 ∧ y.1.2.1 ≤ y.1.2.2 ∧ Sl KV lo hi w y.1.1 y.1.2.1 x.1) (fun j x hx => by
    obtain ⟨cs, ⟨a, b, rfl, ⟨A', n', c', rfl, hnc, hs⟩, hb, hi'⟩, hq⟩ := hc j x hx
    subst hb
    exact ⟨((A', n', c'), x.2), fun i u hu => hq i u hu, rfl, hi', hnc, hs⟩)
  refine ⟨L, ⟨by rw [q1]; exact h.len, h.bound, fun _ => ⟨ad, e, h1, h2, fun j y hy => ?_⟩⟩, q1, fun i x hx => ?_⟩
  · have hj : j < l.length := by rw [← q1]; exact (List.getElem?_eq_some_iff.1 hy).1
    obtain ⟨y', g1, g2, _⟩ := q2 j _ (List.getElem?_eq_getElem hj)
    rw [hy] at g1; cases g1
    exact ⟨_, ⟨rfl, trivial⟩, g2⟩
  · have hj : i < l.length := by rw [← q1]; exact (List.getElem?_eq_some_iff.1 hx).1
    obtain ⟨y', g1, _, g2, g3, g4, g5⟩ := q2 i _ (List.getElem?_eq_getElem hj)
    rw [hx] at g1; cases g1
    exact ⟨_, List.getElem?_eq_getElem hj, g2, g3, g4, g5⟩
theorem hd_kc {lo hi : Nat} {w : World} {A : Option Addr} {n : Nat} {L : List CT} {l : List CD} (h : Sl KCt lo hi w A n L) (ht : HdC lo hi w L l) : Sl KC lo hi w A n l := by
  refine ⟨by rw [← ht.1]; exact h.len, h.bound, fun hn => ?_⟩
  obtain ⟨ad, e, h1, h2, hc⟩ := h.at_ hn
  refine ⟨ad, e, h1, h2, fun j q hq => ?_⟩
  obtain ⟨x, hx⟩ : ∃ x, L[j]? = some x := ⟨_, List.getElem?_eq_getElem (by rw [ht.1]; exact (List.getElem?_eq_some_iff.1 hq).1)⟩
  obtain ⟨q', g1, g2, g3, g4, g6⟩ := ht.2 j x hx
  rw [hq] at g1; cases g1
  obtain ⟨cs, ⟨hcs, _⟩, hq2⟩ := hc j x hx
  subst hcs
  exact ⟨[.slice x.1.1 x.1.2.1 x.1.2.2] ++ [.int .i64 x.2], ⟨_, _, rfl, ⟨_, _, _, rfl, g4, g6⟩, by rw [g2], g3⟩, fun i u hu => by rw [show KC.sz = KCt.sz from rfl]; exact hq2 i u hu⟩
theorem kc_ok {lo hi : Nat} {w : World} {A : Option Addr} {n : Nat} {l : List CD} (h : Sl KC lo hi w A n l) : ∀ q, q ∈ l → okI q.2 ∧ ∀ v, v ∈ q.1 → okV v := fun q hq => by
  obtain ⟨j, hj⟩ := List.getElem?_of_mem hq
  obtain ⟨ad, cs, _, ⟨a, b, _, ⟨A', n', c', _, _, hs⟩, _, hi'⟩, _⟩ := h.get j q hj
  exact ⟨hi', fun v hv => let ⟨k, hk⟩ := List.getElem?_of_mem hv; KV_ok hs k v hk⟩
def okAt (l : List CD) (i : Nat) : Bool := match l[i]? with
  | none => true
  | some q => isT q.1 && (!decide (q.2 = 0) && (decide (i = 0) || match l[i - 1]? with
    | none => true
    | some p => decide (cmpT p.1 q.1 < 0)))
def isR (l : List CD) : Bool := (List.range l.length).all (okAt l)
section
variable {l : List CD} {i : Nat} {q p : CD}
theorem isR_T (h : ∀ j, j < l.length → okAt l j = true) : isR l = true := List.all_eq_true.2 fun j hj => h j (List.mem_range.1 hj)
theorem isR_at (h : isR l = true) (i : Nat) : okAt l i = true := by
  by_cases hi : i < l.length
  · exact List.all_eq_true.1 h i (List.mem_range.2 hi)
  · rw [okAt, List.getElem?_eq_none Zz]
theorem isR_F (hq : l[i]? = some q) (h : okAt l i = false) : isR l = false := by
  cases hr : isR l with
  | false => rfl
  | true => rw [isR_at hr i] at h; cases h
theorem okAt_1 (hq : l[i]? = some q) (h : isT q.1 = false) : okAt l i = false := by rw [okAt, hq]; simp [h]
theorem okAt_2 (hq : l[i]? = some q) (h : q.2 = 0) : okAt l i = false := by rw [okAt, hq]; simp [h]
theorem okAt_3 (hq : l[i]? = some q) (h0 : 0 < i) (hp : l[i - 1]? = some p) (h : 0 ≤ cmpT p.1 q.1) : okAt l i = false := by
  rw [okAt, hq]
  simp only [hp]
  rw [decide_eq_false (show ¬ i = 0 by omega), decide_eq_false (show ¬ cmpT p.1 q.1 < 0 by omega)]; simp
theorem okAt_T0 (hq : l[i]? = some q) (h1 : isT q.1 = true) (h2 : q.2 ≠ 0) (h0 : i = 0) : okAt l i = true := by
  rw [okAt, hq]; simp [h1, h2, h0]
theorem okAt_T (hq : l[i]? = some q) (h1 : isT q.1 = true) (h2 : q.2 ≠ 0) (hp : l[i - 1]? = some p) (h : cmpT p.1 q.1 < 0) : okAt l i = true := by
  rw [okAt, hq]; simp [h1, h2, hp, h]
theorem okAt_t (hq : l[i]? = some q) (h : okAt l i = true) : isT q.1 = true ∧ q.2 ≠ 0 ∧ (0 < i → ∀ p, l[i - 1]? = some p → cmpT p.1 q.1 < 0) := by
  rw [okAt, hq] at h
  simp only [Bool.and_eq_true, Bool.not_eq_true', decide_eq_false_iff_not] at h
  refine ⟨h.1, h.2.1, fun h0 p hp => ?_⟩
  have h3 := h.2.2
  rw [hp, decide_eq_false (show ¬ i = 0 by omega)] at h3
  simpa using h3
end
theorem isT_no {l : List VAL} (h : ¬ l.length ≤ 8) : isT l = false := by rw [isT, decide_eq_false h, Bool.and_false]
theorem isT_bad {l : List VAL} {i : Nat} {v : VAL} (hv : l[i]? = some v) (h : isV v = false) : isT l = false := by
  rw [isT, List.all_eq_false.2 ⟨v, List.mem_of_getElem? hv, by simp [h]⟩, Bool.false_and]
theorem isT_yes {l : List VAL} (h8 : l.length ≤ 8) (h : ∀ (j : Nat) v, j < l.length → l[j]? = some v → isV v = true) : isT l = true := by
  rw [isT, decide_eq_true h8, Bool.and_true]
  refine List.all_eq_true.2 fun v hv => ?_
  obtain ⟨j, hj⟩ := List.getElem?_of_mem hv
  exact h j v (List.getElem?_eq_some_iff.1 hj).1 hj
theorem take_step {l : List VAL} {i : Nat} {v : VAL} (hv : l[i]? = some v) (h : isV v = true) (hI : ∀ (j : Nat) u, j < i → l[j]? = some u → isV u = true) : ∀ (j : Nat) u, j < i + 1 → l[j]? = some u → isV u = true := fun j u hj hu => by
  rcases Nat.lt_or_ge j i with h1 | h1
  · exact hI j u h1 hu
  · have : j = i := by omega
    subst this; rw [hv] at hu; cases hu; exact h
theorem tCheck_c {lo hi : Nat} {A : Option Addr} {n c : Nat} {l : List VAL} (w : World) (hs : Sl KV lo hi w A n l) : Ret Tryz.prog 62 #[.slice A n c] w fun r w' => r = .int .i64 (if isT l then 0 else 20) ∧ Keep w w' := by
 have hsl := hs.len
 have hsb := hs.bound
 refine X.enter Zf62 rfl Tryz.ntmps62 rfl<|Zs<|Zr<|Zoa rfl rfl<|Ze<|Zs<|Zs<|Zr<|Zoms rfl rfl<|Zo (X.lenSl Zu38 rfl) rfl<|X.opP X.wN rfl rfl (X.gtr rfl rfl) (fun h7 => ?_) (fun h7 => ?_)
 ·refine Ze<|Zt rfl<|Zs<|Zr<|Zoa rfl rfl<|Ze<|X.ret1 (v := (.int .i64 _)) Zf62 Zr62 rfl ?_
  rw [isT_no Zz]; exact ⟨rfl, (Keep.refl _)⟩
 ·refine Ze<|Zf rfl<|Zk<|Zs<|Zs<|Zr<|Zoms rfl rfl<|Zo (X.lenSl Zu38 rfl) rfl<|Zom rfl rfl<|Ze<|Zb<|X.loopL (σ := Nat) (fun s => [(8, .slice A n c), (9, .int .i64 (n : Int)), (10, .int .i64 (s : Int))]) (fun s w' => s ≤ n ∧ (∀ (j : Nat) u, j < s → l[j]? = some u → isV u = true) ∧ Keep w w') (fun s => n - s) 0 ⟨rfl, rfl, rfl, trivial⟩ ⟨by omega, fun j _ h => absurd h Zz, (Keep.refl _)⟩ ?_
  rintro i b w1 ⟨hi, hI, hk⟩ hback
  have hk0 := hk.size
  refine Zs<|Zr<|X.opP X.wN rfl rfl (X.lss rfl rfl) (fun h11 => ?_) (fun h11 => ?_)
  ·obtain ⟨v, hx⟩ : ∃ v, l[i]? = some v := ⟨_, List.getElem?_eq_getElem Zz⟩
   refine Ze<|Zs<|Zt rfl<|Zk<|Zs<|Zb<|Zs<|Zr<|Zo (X.idxS (hs.keep hk) Zu38 Zs90 rfl rfl ⟨by omega, by omega⟩) rfl<|Zo (X.loadSN Zi90 Zs90 (hs.keep hk) hx rfl (fun _ h => h.1) rfl) rfl<|Zc (X.allocE Tryz.zeroValue90 rfl) rfl ?_
   rintro _ w1 ⟨rfl, hB1, hk1, hz1⟩
   refine Zc (X.storeNE Zs90 hB1 rfl rfl rfl rfl (encV_one _)) rfl ?_
   rintro _ w2 ⟨hB2, hx2, hz2⟩
   refine Ze<|Zs<|Zr<|Zo (X.loadNB Zi90 Zs90 hB2 rfl rfl rfl) rfl<|Zc (X.callE (Check_c _ _) Tryz.call110 rfl rfl) rfl ?_
   rintro _ w3 ⟨rfl, hk3⟩
   have hk3' := hk3.size
   refine X.opP X.wN rfl rfl (X.neI rfl rfl) (fun h16 => ?_) (fun h16 => ?_)
   ·refine Ze<|Zt rfl<|Zs<|Zr<|Zoa rfl rfl<|Ze<|X.ret1 (v := (.int .i64 _)) Zf62 Zr62 rfl ?_
    have hv : isV v = false := by cases hv : isV v with | false => rfl | true => rw [hv] at h16; simp at h16
    rw [isT_bad hx hv]; exact ⟨rfl, (((hk.trans hk1).step hx2 zq34).trans hk3)⟩
   ·refine Ze<|Zf rfl<|Zk<|Zi<|Zr<|Zo (X.add rfl rfl (X.w_i64 Zz)) rfl<|Zomi rfl rfl<|Ze ?_
    refine hback (i + 1) _ _ ⟨rfl, rfl, rfl, trivial⟩ ⟨by omega, take_step hx ((by cases hv : isV v with | true => rfl | false => rw [hv] at h16; simp at h16)) hI, (((hk.trans hk1).step hx2 zq34).trans hk3)⟩ Zz
  ·refine Ze<|Zs<|Zf rfl<|Zx rfl<|Zs<|Zr<|Zoa rfl rfl<|Ze<|X.ret1 (v := (.int .i64 _)) Zf62 Zr62 rfl ?_
   rw [isT_yes Zz (fun j u hj hu => hI j u Zz hu)]; exact ⟨rfl, hk⟩
theorem R02Check_c {lo hi : Nat} {A : Option Addr} {n c : Nat} {l : List VAL} (w : World) (hs : Sl KV lo hi w A n l) : Ret Tryz.prog 35 #[.slice A n c] w fun r w' => r = .int .i64 (if isT l then 0 else 20) ∧ Keep w w' := by
 have hsl := hs.len
 have hsb := hs.bound
 refine X.enter Zf35 rfl Tryz.ntmps35 rfl<|Zs<|Zr<|Zoa rfl rfl<|Ze<|Zs<|Zs<|Zr<|Zoms rfl rfl<|Zo (X.lenSl Zu38 rfl) rfl<|X.opP X.wN rfl rfl (X.gtr rfl rfl) (fun h6 => ?_) (fun h6 => ?_)
 ·refine Ze<|Zt rfl<|Zs<|Zr<|Zoa rfl rfl<|Ze<|X.ret1 (v := (.int .i64 _)) Zf35 Zr35 rfl ?_
  rw [isT_no Zz]; exact ⟨rfl, (Keep.refl _)⟩
 ·refine Ze<|Zf rfl<|Zk<|Zs<|Zs<|Zr<|Zoa rfl rfl<|Ze<|Zb<|X.loopL (σ := Nat) (fun s => [(0, .slice A n c), (3, .int .i64 (s : Int))]) (fun s w' => s ≤ n ∧ (∀ (j : Nat) u, j < s → l[j]? = some u → isV u = true) ∧ Keep w w') (fun s => n - s) 0 ⟨rfl, rfl, trivial⟩ ⟨by omega, fun j _ h => absurd h Zz, (Keep.refl _)⟩ ?_
  rintro i b w1 ⟨hi, hI, hk⟩ hback
  have hk0 := hk.size
  refine Zs<|Zs<|Zr<|Zomi rfl rfl<|Zoms rfl rfl<|Zo (X.lenSl Zu38 rfl) rfl<|X.opP X.wN rfl rfl (X.lss rfl rfl) (fun h10 => ?_) (fun h10 => ?_)
  ·obtain ⟨v, hx⟩ : ∃ v, l[i]? = some v := ⟨_, List.getElem?_eq_getElem Zz⟩
   refine Ze<|Zt rfl<|Zk<|Zs<|Zb<|Zs<|Zr<|Zoms rfl rfl<|Zomi rfl rfl<|Zo (X.idxS (hs.keep hk) Zu38 Zs90 rfl rfl ⟨by omega, by omega⟩) rfl<|Zo (X.loadSN Zi90 Zs90 (hs.keep hk) hx rfl (fun _ h => h.1) rfl) rfl<|Zc (X.callE (R01Is_c _ _) Tryz.call83 rfl rfl) rfl ?_
   rintro _ w1 ⟨rfl, hk1⟩
   have hk1' := hk1.size
   refine Zo (X.not_ rfl) rfl<|Ze<|X.condB rfl (fun hc => ?_) (fun hc => ?_)
   ·refine Zs<|Zr<|Zoa rfl rfl<|Ze<|X.ret1 (v := (.int .i64 _)) Zf35 Zr35 rfl ?_
    rw [isT_bad hx (by simpa using hc)]; exact ⟨rfl, (hk.trans hk1)⟩
   ·refine Zk<|Zi<|Zr<|Zomi rfl rfl<|Zo (X.add rfl rfl (X.w_i64 Zz)) rfl<|Zoai rfl rfl<|Ze ?_
    refine hback (i + 1) _ _ ⟨rfl, rfl, trivial⟩ ⟨by omega, take_step hx (by simpa using hc) hI, (hk.trans hk1)⟩ Zz
  ·refine Ze<|Zf rfl<|Zx rfl<|Zs<|Zr<|Zoa rfl rfl<|Ze<|X.ret1 (v := (.int .i64 _)) Zf35 Zr35 rfl ?_
   rw [isT_yes Zz (fun j u hj hu => hI j u Zz hu)]; exact ⟨rfl, hk⟩
theorem ok_step {l : List CD} {i : Nat} (h : okAt l i = true) (hI : ∀ j, j < i → okAt l j = true) : ∀ j, j < i + 1 → okAt l j = true := fun j hj => by
  rcases Nat.lt_or_ge j i with h1 | h1
  · exact hI j h1
  · have : j = i := by omega
    subst this; exact h
theorem rCheck_c {lo hi : Nat} {A : Option Addr} {n c : Nat} {l : List CD} (w : World) (hs : Sl KC lo hi w A n l) (hhi : hi ≤ w.heap.size) : Ret Tryz.prog 21 #[.slice A n c] w fun r w' => r = .int .i64 (if isR l then 0 else 70) ∧ Keep w w' := by
 obtain ⟨L, hsL, hLl, hLt⟩ := kc_hd hs
 have hsl := hs.len
 have hsb := hs.bound
 refine X.enter Zf21 rfl Tryz.ntmps21 rfl<|Zs<|Zr<|Zoa rfl rfl<|Ze<|Zs<|Zs<|Zr<|Zoms rfl rfl<|Zo (X.lenSl Zu22 rfl) rfl<|Zom rfl rfl<|Ze<|Zb<|X.loopL (σ := Nat) (fun s => [(0, .slice A n c), (5, .slice A n c), (6, .int .i64 (n : Int)), (7, .int .i64 (s : Int))]) (fun s w' => s ≤ n ∧ (∀ j, j < s → okAt l j = true) ∧ Keep w w') (fun s => n - s) 0 ⟨rfl, rfl, rfl, rfl, trivial⟩ ⟨by omega, fun j h => absurd h Zz, (Keep.refl _)⟩ ?_
 rintro i b w1 ⟨hi, hI, hk⟩ hback
 have hk0 := hk.size
 refine Zs<|Zr<|X.opP X.wN rfl rfl (X.lss rfl rfl) (fun h8 => ?_) (fun h8 => ?_)
 ·obtain ⟨x, hx⟩ : ∃ x, L[i]? = some x := ⟨_, List.getElem?_eq_getElem Zz⟩
  obtain ⟨q, hq, eq, oq, nq, ht⟩ := hLt _ _ hx
  refine Ze<|Zs<|Zt rfl<|Zk<|Zs<|Zb<|Zs<|Zr<|Zomi rfl rfl<|Zo (X.idxS (hsL.keep hk) Zu22 Zs40 rfl rfl ⟨by omega, by omega⟩) rfl<|Zo (X.loadSN Zi40 Zs40 (hsL.keep hk) hx rfl (fun _ h => h.1) rfl) rfl<|Zc (X.allocE Zv40 rfl) rfl ?_
  rintro _ w1 ⟨rfl, hB1, hk1, hz1⟩
  refine Zoai rfl rfl<|Zc (X.storeNE Zs40 hB1 rfl rfl rfl rfl (fun u hu => by simp at hu; rcases hu with rfl | rfl <;> rfl)) rfl ?_
  rintro _ w2 ⟨hB2, hx2, hz2⟩
  refine Ze<|Zs<|X.regionD (fun _ => False) 25 Zl Zl (fun w3 hk3 hz3 => ?_)
  refine ZDc 0 rfl Zl (X.fldB (j := 0) Zu40 rfl rfl Zs38 rfl)<|ZD 1 rfl Zl (fun w' hk' => X.load1B Zi38 (hB2.keep (hk3.trans hk')) rfl rfl)<|X.dE (i := 2) Zl rfl (X.dwN rfl) (X.callE (tCheck_c _ (ht.keep (((hk.trans hk1).step hx2 zq34).trans hk3))) Tryz.call62 rfl rfl) (by rintro _ w4 ⟨rfl, hk4⟩ _; exact hk4.mono (fun _ _ h => h.elim)) ?_
  rintro _ w4 ⟨rfl, hk4⟩
  have hk4' := hk4.size
  refine ZDc 3 rfl Zl (X.neI rfl rfl)<|ZDc 4 rfl Zl (Zdmo rfl)<|X.dFork 16 rfl (fun h16 => ?_) (fun h16 => ?_)
  ·have hT : isT q.1 = false := by
     cases hq0 : isT q.1 with
     | false => rfl
     | true => rw [hq0] at h16; simp at h16
   refine ZS 5 Zl rfl rfl rfl<|ZS 6 Zl rfl rfl rfl<|ZS 7 Zl rfl rfl rfl<|ZDc 8 rfl Zl (ZdTt rfl rfl)<|ZDc 9 rfl Zl (Zdmt rfl)<|ZS 10 Zl rfl rfl rfl<|ZS 11 Zl rfl rfl rfl<|ZS 12 Zl rfl rfl rfl<|X.dTakeU 13 rfl Zl Zl Zl rfl rfl rfl<|X.dTakeU 14 rfl Zl Zl Zl rfl rfl rfl<|X.dTakeU 15 rfl Zl Zl Zl rfl rfl rfl<|X.dTakeU 16 rfl Zl Zl Zl rfl rfl rfl<|X.dTakeU 17 rfl Zl Zl Zl rfl rfl rfl<|X.dTakeU 18 rfl Zl Zl Zl rfl rfl rfl<|ZU 19 Zl rfl rfl rfl<|ZU 20 Zl rfl rfl rfl<|ZU 21 Zl rfl rfl rfl<|ZU 22 Zl rfl rfl rfl<|ZS 23 Zl rfl rfl rfl<|ZDc 24 rfl Zl (ZdTt rfl rfl)<|Zdend Zl<|Zt rfl<|Zs<|Zr<|Zoa rfl rfl<|Ze<|X.ret1 (v := (.int .i64 _)) Zf21 Zr21 rfl ?_
   exact ⟨by rw [isR_F hq (okAt_1 hq hT)] <;> rfl, ((((hk.trans hk1).step hx2 zq34).trans hk3).trans hk4)⟩
  ·have hT : isT q.1 = true := by
     cases hq0 : isT q.1 with
     | true => rfl
     | false => rw [hq0] at h16; simp at h16
   refine ZG 5 rfl rfl rfl Zl (fun w' hk' => X.fldB (j := 1) Zu40 rfl rfl Tryz.sizeOf2 rfl)<|ZG 6 rfl rfl rfl Zl (fun w' hk' => X.load1B Tryz.isAgg2 (hB2.keep ((hk3.trans hk4).trans hk')) rfl rfl)<|ZG 7 rfl rfl rfl Zl (fun w' hk' => X.eqI rfl rfl)<|ZDc 8 rfl Zl (ZdFo rfl rfl)<|ZDc 9 rfl Zl (Zdmo rfl)<|X.dFork 21 rfl (fun h21 => ?_) (fun h21 => ?_)
   ·have hN : q.2 = 0 := by rw [← eq]; exact of_decide_eq_true h21
    refine ZS 10 Zl rfl rfl rfl<|ZS 11 Zl rfl rfl rfl<|ZS 12 Zl rfl rfl rfl<|X.dTakeU 13 rfl Zl Zl Zl rfl rfl rfl<|X.dTakeU 14 rfl Zl Zl Zl rfl rfl rfl<|X.dTakeU 15 rfl Zl Zl Zl rfl rfl rfl<|X.dTakeU 16 rfl Zl Zl Zl rfl rfl rfl<|X.dTakeU 17 rfl Zl Zl Zl rfl rfl rfl<|X.dTakeU 18 rfl Zl Zl Zl rfl rfl rfl<|ZU 19 Zl rfl rfl rfl<|ZU 20 Zl rfl rfl rfl<|ZU 21 Zl rfl rfl rfl<|ZU 22 Zl rfl rfl rfl<|ZS 23 Zl rfl rfl rfl<|ZDc 24 rfl Zl (ZdTt rfl rfl)<|Zdend Zl<|Zt rfl<|Zs<|Zr<|Zoa rfl rfl<|Ze<|X.ret1 (v := (.int .i64 _)) Zf21 Zr21 rfl ?_
    exact ⟨by rw [isR_F hq (okAt_2 hq hN)] <;> rfl, ((((hk.trans hk1).step hx2 zq34).trans hk3).trans hk4)⟩
   ·have hN : ¬ q.2 = 0 := by rw [← eq]; exact of_decide_eq_false h21
    refine ZG 10 rfl rfl rfl Zl (fun w' hk' => Zdmi rfl)<|ZG 11 rfl rfl rfl Zl (fun w' hk' => X.gtr rfl rfl)<|ZG 12 rfl rfl rfl Zl (fun w' hk' => Zdmo rfl)<|X.dFork 24 rfl (fun h24 => ?_) (fun h24 => ?_)
    ·have h24' : (0 : Int) < (i : Int) := of_decide_eq_true h24
     obtain ⟨y, hy0⟩ : ∃ y, L[(i - 1)]? = some y := ⟨_, List.getElem?_eq_getElem Zz⟩
     obtain ⟨p, hp, ep, op, np, ht2⟩ := hLt _ _ hy0
     have hy : L[((i : Int) - 1).toNat]? = some y := by rw [show ((i : Int) - 1).toNat = i - 1 by omega]; exact hy0
     refine ZG 13 rfl rfl rfl Zl (fun w' hk' => Zdms rfl)<|ZG 14 rfl rfl rfl Zl (fun w' hk' => Zdmi rfl)<|ZG 15 rfl rfl rfl Zl (fun w' hk' => X.sub rfl rfl (X.w_i64 Zz))<|ZG 16 rfl rfl rfl Zl (fun w' hk' => X.idxS (hsL.keep (((((hk.trans hk1).step hx2 zq34).trans hk3).trans hk4).trans hk')) Zu22 Zs40 rfl rfl ⟨by omega, by omega⟩) ?_
     refine ZG 17 rfl rfl rfl Zl (fun w' hk' => X.fldA Zu40 rfl rfl Zs38)<|ZG 18 rfl rfl rfl Zl (fun w' hk' => X.loadSf (o := 0) Zi38 (hsL.keep (((((hk.trans hk1).step hx2 zq34).trans hk3).trans hk4).trans hk')) hy rfl (fun _ h => by rw [h.1]; rfl)) ?_
     refine ZG 19 rfl rfl rfl Zl (fun w' hk' => X.fldB (j := 0) Zu40 rfl rfl Zs38 rfl)<|ZG 20 rfl rfl rfl Zl (fun w' hk' => X.load1B Zi38 (hB2.keep ((hk3.trans hk4).trans hk')) rfl rfl)<|X.dE (i := 21) Zl rfl (X.dwG rfl rfl rfl) (X.callE (tupleCompare_c _ (ht2.keep ((((hk.trans hk1).step hx2 zq34).trans hk3).trans hk4)) (ht.keep ((((hk.trans hk1).step hx2 zq34).trans hk3).trans hk4))) Tryz.call47 rfl rfl) (by rintro _ w5 ⟨rfl, hk5⟩ _; exact hk5.mono (fun _ _ h => h.elim)) ?_
     rintro _ w5 ⟨rfl, hk5⟩
     have hk5' := hk5.size
     refine ZG 22 rfl rfl rfl Zl (fun w' hk' => X.geq rfl rfl)<|ZG 23 rfl rfl rfl Zl (fun w' hk' => ZdTo rfl rfl)<|ZDc 24 rfl Zl (ZdFo rfl rfl)<|Zdend Zl<|X.condB rfl (fun hc36 => ?_) (fun hc36 => ?_)
     ·have hc := of_decide_eq_true hc36
      refine Zs<|Zr<|Zoa rfl rfl<|Ze<|X.ret1 (v := (.int .i64 _)) Zf21 Zr21 rfl ?_
      exact ⟨by rw [isR_F hq (okAt_3 hq Zz hp Zz)] <;> rfl, (((((hk.trans hk1).step hx2 zq34).trans hk3).trans hk4).trans hk5)⟩
     ·have hc := of_decide_eq_false hc36
      refine Zk<|Zi<|Zr<|Zo (X.add rfl rfl (X.w_i64 Zz)) rfl<|Zomi rfl rfl<|Ze ?_
      refine hback (i + 1) _ _ ⟨rfl, rfl, rfl, rfl, trivial⟩ ⟨by omega, ok_step (okAt_T hq hT hN hp Zz) hI, (((((hk.trans hk1).step hx2 zq34).trans hk3).trans hk4).trans hk5)⟩ Zz
    ·have h24' : ¬ (0 : Int) < (i : Int) := of_decide_eq_false h24
     refine X.dTakeS 13 rfl Zl Zl Zl rfl rfl rfl rfl<|X.dTakeS 14 rfl Zl Zl Zl rfl rfl rfl rfl<|X.dTakeS 15 rfl Zl Zl Zl rfl rfl rfl rfl<|X.dTakeS 16 rfl Zl Zl Zl rfl rfl rfl rfl<|X.dTakeS 17 rfl Zl Zl Zl rfl rfl rfl rfl<|X.dTakeS 18 rfl Zl Zl Zl rfl rfl rfl rfl<|ZS 19 Zl rfl rfl rfl<|ZS 20 Zl rfl rfl rfl<|ZS 21 Zl rfl rfl rfl<|ZS 22 Zl rfl rfl rfl<|ZG 23 rfl rfl rfl Zl (fun w' hk' => ZdFf rfl rfl)<|ZDc 24 rfl Zl (ZdFf rfl rfl)<|Zdend Zl<|Zf rfl<|Zk<|Zi<|Zr<|Zo (X.add rfl rfl (X.w_i64 Zz)) rfl<|Zomi rfl rfl<|Ze ?_
     refine hback (i + 1) _ _ ⟨rfl, rfl, rfl, rfl, trivial⟩ ⟨by omega, ok_step (okAt_T0 hq hT hN Zz) hI, ((((hk.trans hk1).step hx2 zq34).trans hk3).trans hk4)⟩ Zz
 ·refine Ze<|Zs<|Zf rfl<|Zx rfl<|Zs<|Zr<|Zoa rfl rfl<|Ze<|X.ret1 (v := (.int .i64 _)) Zf21 Zr21 rfl ?_
  exact ⟨by rw [isR_T (fun j hj => hI j Zz)] <;> rfl, hk⟩
theorem RIs_c {lo hi : Nat} {A : Option Addr} {n c : Nat} {l : List CD} (w : World) (hs : Sl KC lo hi w A n l) (hhi : hi ≤ w.heap.size) : Ret Tryz.prog 10 #[.slice A n c] w fun r w' => r = .bool (isR l) ∧ Keep w w' := by
 obtain ⟨L, hsL, hLl, hLt⟩ := kc_hd hs
 have hsl := hs.len
 have hsb := hs.bound
 refine X.enter Zf10 rfl Tryz.ntmps10 rfl<|Zs<|Zr<|Zoa rfl rfl<|Ze<|Zs<|Zs<|Zr<|Zoa rfl rfl<|Ze<|Zb<|X.loopL (σ := Nat) (fun s => [(0, .slice A n c), (3, .int .i64 (s : Int))]) (fun s w' => s ≤ n ∧ (∀ j, j < s → okAt l j = true) ∧ Keep w w') (fun s => n - s) 0 ⟨rfl, rfl, trivial⟩ ⟨by omega, fun j h => absurd h Zz, (Keep.refl _)⟩ ?_
 rintro i b w1 ⟨hi, hI, hk⟩ hback
 have hk0 := hk.size
 refine Zs<|Zs<|Zr<|Zomi rfl rfl<|Zoms rfl rfl<|Zo (X.lenSl Zu22 rfl) rfl<|X.opP X.wN rfl rfl (X.lss rfl rfl) (fun h7 => ?_) (fun h7 => ?_)
 ·obtain ⟨x, hx⟩ : ∃ x, L[i]? = some x := ⟨_, List.getElem?_eq_getElem Zz⟩
  obtain ⟨q, hq, eq, oq, nq, ht⟩ := hLt _ _ hx
  refine Ze<|Zt rfl<|Zk<|Zs<|Zb<|Zs<|X.regionD (fun _ => False) 34 Zl Zl (fun w1 hk1 hz1 => ?_)
  refine ZDc 0 rfl Zl (Zdms rfl)<|ZDc 1 rfl Zl (Zdmi rfl)<|ZD 2 rfl Zl (fun w' hk' => X.idxS (hsL.keep ((hk.trans hk1).trans hk')) Zu22 Zs40 rfl rfl ⟨by omega, by omega⟩)<|ZDc 3 rfl Zl (X.fldA Zu40 rfl rfl Zs38)<|ZD 4 rfl Zl (fun w' hk' => X.loadSf (o := 0) Zi38 (hsL.keep ((hk.trans hk1).trans hk')) hx rfl (fun _ h => by rw [h.1]; rfl)) ?_
  refine X.dE (i := 5) Zl rfl (X.dwN rfl) (X.callE (R02Check_c _ (ht.keep (hk.trans hk1))) Tryz.call35 rfl rfl) (by rintro _ w2 ⟨rfl, hk2⟩ _; exact hk2.mono (fun _ _ h => h.elim)) ?_
  rintro _ w2 ⟨rfl, hk2⟩
  have hk2' := hk2.size
  refine ZDc 6 rfl Zl (X.neI rfl rfl)<|ZDc 7 rfl Zl (Zdmo rfl)<|X.dFork 17 rfl (fun h17 => ?_) (fun h17 => ?_)
  ·have hT : isT q.1 = false := by
     cases hq0 : isT q.1 with
     | false => rfl
     | true => rw [hq0] at h17; simp at h17
   refine X.dTakeS 8 rfl Zl Zl Zl rfl rfl rfl rfl<|ZS 9 Zl rfl rfl rfl<|ZS 10 Zl rfl rfl rfl<|ZS 11 Zl rfl rfl rfl<|ZS 12 Zl rfl rfl rfl<|ZS 13 Zl rfl rfl rfl<|ZDc 14 rfl Zl (ZdTt rfl rfl)<|ZDc 15 rfl Zl (Zdmt rfl)<|ZS 16 Zl rfl rfl rfl<|ZS 17 Zl rfl rfl rfl<|ZS 18 Zl rfl rfl rfl<|X.dTakeU 19 rfl Zl Zl Zl rfl rfl rfl<|X.dTakeU 20 rfl Zl Zl Zl rfl rfl rfl<|X.dTakeU 21 rfl Zl Zl Zl rfl rfl rfl<|X.dTakeU 22 rfl Zl Zl Zl rfl rfl rfl<|X.dTakeU 23 rfl Zl Zl Zl rfl rfl rfl<|X.dTakeU 24 rfl Zl Zl Zl rfl rfl rfl<|X.dTakeU 25 rfl Zl Zl Zl rfl rfl rfl<|ZU 26 Zl rfl rfl rfl<|ZU 27 Zl rfl rfl rfl<|ZU 28 Zl rfl rfl rfl<|ZU 29 Zl rfl rfl rfl<|ZU 30 Zl rfl rfl rfl<|ZU 31 Zl rfl rfl rfl<|ZS 32 Zl rfl rfl rfl<|ZDc 33 rfl Zl (ZdTt rfl rfl)<|Zdend Zl<|Zt rfl<|Zs<|Zr<|Zoa rfl rfl<|Ze<|X.ret1 (v := (.bool _)) Zf10 Zr10 rfl ?_
   exact ⟨by rw [isR_F hq (okAt_1 hq hT)] <;> rfl, ((hk.trans hk1).trans hk2)⟩
  ·have hT : isT q.1 = true := by
     cases hq0 : isT q.1 with
     | true => rfl
     | false => rw [hq0] at h17; simp at h17
   refine ZG 8 rfl rfl rfl Zl (fun w' hk' => Zdms rfl)<|ZG 9 rfl rfl rfl Zl (fun w' hk' => Zdmi rfl)<|ZG 10 rfl rfl rfl Zl (fun w' hk' => X.idxS (hsL.keep (((hk.trans hk1).trans hk2).trans hk')) Zu22 Zs40 rfl rfl ⟨by omega, by omega⟩)<|ZG 11 rfl rfl rfl Zl (fun w' hk' => X.fldA Zu40 rfl rfl Tryz.sizeOf2)<|ZG 12 rfl rfl rfl Zl (fun w' hk' => X.loadSf (o := 1) Tryz.isAgg2 (hsL.keep (((hk.trans hk1).trans hk2).trans hk')) hx rfl (fun _ h => by rw [h.1]; rfl)) ?_
   refine ZG 13 rfl rfl rfl Zl (fun w' hk' => X.eqI rfl rfl)<|ZDc 14 rfl Zl (ZdFo rfl rfl)<|ZDc 15 rfl Zl (Zdmo rfl)<|X.dFork 25 rfl (fun h25 => ?_) (fun h25 => ?_)
   ·have hN : q.2 = 0 := by rw [← eq]; exact of_decide_eq_true h25
    refine ZS 16 Zl rfl rfl rfl<|ZS 17 Zl rfl rfl rfl<|ZS 18 Zl rfl rfl rfl<|X.dTakeU 19 rfl Zl Zl Zl rfl rfl rfl<|X.dTakeU 20 rfl Zl Zl Zl rfl rfl rfl<|X.dTakeU 21 rfl Zl Zl Zl rfl rfl rfl<|X.dTakeU 22 rfl Zl Zl Zl rfl rfl rfl<|X.dTakeU 23 rfl Zl Zl Zl rfl rfl rfl<|X.dTakeU 24 rfl Zl Zl Zl rfl rfl rfl<|X.dTakeU 25 rfl Zl Zl Zl rfl rfl rfl<|ZU 26 Zl rfl rfl rfl<|ZU 27 Zl rfl rfl rfl<|ZU 28 Zl rfl rfl rfl<|ZU 29 Zl rfl rfl rfl<|ZU 30 Zl rfl rfl rfl<|ZU 31 Zl rfl rfl rfl<|ZS 32 Zl rfl rfl rfl<|ZDc 33 rfl Zl (ZdTt rfl rfl)<|Zdend Zl<|Zt rfl<|Zs<|Zr<|Zoa rfl rfl<|Ze<|X.ret1 (v := (.bool _)) Zf10 Zr10 rfl ?_
    exact ⟨by rw [isR_F hq (okAt_2 hq hN)] <;> rfl, ((hk.trans hk1).trans hk2)⟩
   ·have hN : ¬ q.2 = 0 := by rw [← eq]; exact of_decide_eq_false h25
    refine ZG 16 rfl rfl rfl Zl (fun w' hk' => Zdmi rfl)<|ZG 17 rfl rfl rfl Zl (fun w' hk' => X.gtr rfl rfl)<|ZG 18 rfl rfl rfl Zl (fun w' hk' => Zdmo rfl)<|X.dFork 28 rfl (fun h28 => ?_) (fun h28 => ?_)
    ·have h28' : (0 : Int) < (i : Int) := of_decide_eq_true h28
     obtain ⟨y, hy0⟩ : ∃ y, L[(i - 1)]? = some y := ⟨_, List.getElem?_eq_getElem Zz⟩
     obtain ⟨p, hp, ep, op, np, ht2⟩ := hLt _ _ hy0
     have hy : L[((i : Int) - 1).toNat]? = some y := by rw [show ((i : Int) - 1).toNat = i - 1 by omega]; exact hy0
     refine ZG 19 rfl rfl rfl Zl (fun w' hk' => Zdms rfl)<|ZG 20 rfl rfl rfl Zl (fun w' hk' => Zdmi rfl)<|ZG 21 rfl rfl rfl Zl (fun w' hk' => X.sub rfl rfl (X.w_i64 Zz))<|ZG 22 rfl rfl rfl Zl (fun w' hk' => X.idxS (hsL.keep (((hk.trans hk1).trans hk2).trans hk')) Zu22 Zs40 rfl rfl ⟨by omega, by omega⟩)<|ZG 23 rfl rfl rfl Zl (fun w' hk' => X.fldA Zu40 rfl rfl Zs38)<|ZG 24 rfl rfl rfl Zl (fun w' hk' => X.loadSf (o := 0) Zi38 (hsL.keep (((hk.trans hk1).trans hk2).trans hk')) hy rfl (fun _ h => by rw [h.1]; rfl)) ?_
     refine ZG 25 rfl rfl rfl Zl (fun w' hk' => Zdms rfl)<|ZG 26 rfl rfl rfl Zl (fun w' hk' => Zdmi rfl)<|ZG 27 rfl rfl rfl Zl (fun w' hk' => X.idxS (hsL.keep (((hk.trans hk1).trans hk2).trans hk')) Zu22 Zs40 rfl rfl ⟨by omega, by omega⟩)<|ZG 28 rfl rfl rfl Zl (fun w' hk' => X.fldA Zu40 rfl rfl Zs38)<|ZG 29 rfl rfl rfl Zl (fun w' hk' => X.loadSf (o := 0) Zi38 (hsL.keep (((hk.trans hk1).trans hk2).trans hk')) hx rfl (fun _ h => by rw [h.1]; rfl)) ?_
     refine X.dE (i := 30) Zl rfl (X.dwG rfl rfl rfl) (X.callE (R02Compare_c _ (ht2.keep ((hk.trans hk1).trans hk2)) (ht.keep ((hk.trans hk1).trans hk2))) Tryz.call17 rfl rfl) (by rintro _ w3 ⟨rfl, hk3⟩ _; exact hk3.mono (fun _ _ h => h.elim)) ?_
     rintro _ w3 ⟨rfl, hk3⟩
     have hk3' := hk3.size
     refine ZG 31 rfl rfl rfl Zl (fun w' hk' => X.geq rfl rfl)<|ZG 32 rfl rfl rfl Zl (fun w' hk' => ZdTo rfl rfl)<|ZDc 33 rfl Zl (ZdFo rfl rfl)<|Zdend Zl<|X.condB rfl (fun hc43 => ?_) (fun hc43 => ?_)
     ·have hc := of_decide_eq_true hc43
      refine Zs<|Zr<|Zoa rfl rfl<|Ze<|X.ret1 (v := (.bool _)) Zf10 Zr10 rfl ?_
      exact ⟨by rw [isR_F hq (okAt_3 hq Zz hp Zz)] <;> rfl, (((hk.trans hk1).trans hk2).trans hk3)⟩
     ·have hc := of_decide_eq_false hc43
      refine Zk<|Zi<|Zr<|Zomi rfl rfl<|Zo (X.add rfl rfl (X.w_i64 Zz)) rfl<|Zoai rfl rfl<|Ze ?_
      refine hback (i + 1) _ _ ⟨rfl, rfl, trivial⟩ ⟨by omega, ok_step (okAt_T hq hT hN hp Zz) hI, (((hk.trans hk1).trans hk2).trans hk3)⟩ Zz
    ·have h28' : ¬ (0 : Int) < (i : Int) := of_decide_eq_false h28
     refine X.dTakeS 19 rfl Zl Zl Zl rfl rfl rfl rfl<|X.dTakeS 20 rfl Zl Zl Zl rfl rfl rfl rfl<|X.dTakeS 21 rfl Zl Zl Zl rfl rfl rfl rfl<|X.dTakeS 22 rfl Zl Zl Zl rfl rfl rfl rfl<|X.dTakeS 23 rfl Zl Zl Zl rfl rfl rfl rfl<|X.dTakeS 24 rfl Zl Zl Zl rfl rfl rfl rfl<|X.dTakeS 25 rfl Zl Zl Zl rfl rfl rfl rfl<|ZS 26 Zl rfl rfl rfl<|ZS 27 Zl rfl rfl rfl<|ZS 28 Zl rfl rfl rfl<|ZS 29 Zl rfl rfl rfl<|ZS 30 Zl rfl rfl rfl<|ZS 31 Zl rfl rfl rfl<|ZG 32 rfl rfl rfl Zl (fun w' hk' => ZdFf rfl rfl)<|ZDc 33 rfl Zl (ZdFf rfl rfl)<|Zdend Zl<|Zf rfl<|Zk<|Zi<|Zr<|Zomi rfl rfl<|Zo (X.add rfl rfl (X.w_i64 Zz)) rfl<|Zoai rfl rfl<|Ze ?_
     refine hback (i + 1) _ _ ⟨rfl, rfl, trivial⟩ ⟨by omega, ok_step (okAt_T0 hq hT hN Zz) hI, ((hk.trans hk1).trans hk2)⟩ Zz
 ·refine Ze<|Zf rfl<|Zx rfl<|Zs<|Zr<|Zoa rfl rfl<|Ze<|X.ret1 (v := (.bool _)) Zf10 Zr10 rfl ?_
  exact ⟨by rw [isR_T (fun j hj => hI j Zz)], hk⟩
def entB (q : CD) : List UInt8 := if isT q.1 = true then cntB q.1 q.2 else []
theorem entry_c {lo hi : Nat} {A : Option Addr} {n c : Nat} {q : CD} {N : Int} (w : World) (hs : Sl KV lo hi w A n q.1) (hhi : hi ≤ w.heap.size) (hN : okI N) (hq : N = q.2) : Ret Tryz.prog 102 #[.agg #[.slice A n c, .int .i64 N]] w fun r w' => FreshB w w' r (entB q) := by
 refine X.enter Tryz.func102 rfl Tryz.ntmps102 rfl<|Zs<|Zr<|Zc (X.boxE rfl rfl) rfl ?_
 rintro _ w1 ⟨rfl, hB1, hk1, hz1⟩
 refine Zoa rfl rfl<|Ze<|Zs<|Zr<|Zo (X.loadNB Zi40 Zs40 hB1 rfl rfl rfl) rfl<|Zc (X.callE (Counted_c _ hN _ (hs.keep hk1) Zz) Tryz.call141 rfl rfl) rfl ?_
 rintro _ w2 ⟨v, rfl, hM2, hk2⟩
 have hk2' := hk2.size
 refine Zom rfl rfl<|Zo (X.extr rfl rfl) rfl<|Zo (X.extr rfl rfl) rfl<|Zoa rfl rfl<|Zoai rfl rfl<|Ze<|Zs<|Zr<|Zom rfl rfl<|Zoa rfl rfl<|Ze<|X.ret1 Tryz.func102 Tryz.results102 rfl ?_
 subst hq
 exact ⟨hM2.mono (fun k _ hk => by (try simp only [] at *); omega), (hk1.trans hk2)⟩
theorem Rentry_c {lo hi : Nat} {A : Option Addr} {n c : Nat} {q : CD} {N : Int} (w : World) (hs : Sl KV lo hi w A n q.1) (hhi : hi ≤ w.heap.size) (hN : okI N) (hq : N = q.2) : Ret Tryz.prog 63 #[.agg #[.slice A n c, .int .i64 N]] w fun r w' => FreshB w w' r (entB q) := by
 refine X.enter Tryz.func63 rfl Tryz.ntmps63 rfl<|Zs<|Zr<|Zc (X.boxE rfl rfl) rfl ?_
 rintro _ w1 ⟨rfl, hB1, hk1, hz1⟩
 refine Zoa rfl rfl<|Ze<|Zs<|Zr<|Zo (X.loadNB Zi40 Zs40 hB1 rfl rfl rfl) rfl<|Zc (X.callE (RCounted_c _ hN _ (hs.keep hk1) Zz) Tryz.call111 rfl rfl) rfl ?_
 rintro _ w2 ⟨v, rfl, hM2, hk2⟩
 have hk2' := hk2.size
 refine Zom rfl rfl<|Zo (X.extr rfl rfl) rfl<|Zo (X.extr rfl rfl) rfl<|Zoa rfl rfl<|Zoai rfl rfl<|Ze<|Zs<|Zr<|Zom rfl rfl<|Zoa rfl rfl<|Ze<|X.ret1 Tryz.func63 Tryz.results63 rfl ?_
 subst hq
 exact ⟨hM2.mono (fun k _ hk => by (try simp only [] at *); omega), (hk1.trans hk2)⟩
theorem len_flat {α : Type} {f : α → List UInt8} {k : Nat} : ∀ {l : List α}, (∀ x, x ∈ l → (f x).length ≤ k) → (l.flatMap f).length ≤ l.length * k
  | [], _ => by simp
  | x :: l, h => by
    have h1 := h x List.mem_cons_self
    have h2 := len_flat (l := l) fun y hy => h y (List.mem_cons_of_mem _ hy)
    rw [List.flatMap_cons, List.length_append, List.length_cons, Nat.add_mul]; omega
theorem valB_le {v : VAL} (h : okV v) (hv : isV v = true) : (valB v).length ≤ 270 := by
  unfold valB
  have h2 := of_decide_eq_true hv
  split
  · rename_i h1
    have := numB_10 (zig v.2.1) (zig_ok _ h.2.1).2
    rw [List.length_cons]; omega
  · rename_i h1
    have h3 : v.2.2.size ≤ 256 := by rcases h2 with h2 | h2; exact absurd h2.1 h1; exact h2.2.2
    have := numB_10 (v.2.2.data.toList.length : Int) (by rw [sym_len]; omega)
    rw [Int.toNat_natCast] at this
    rw [List.length_cons, textB, List.length_append, sym_len]
    rw [sym_len] at this; omega
theorem valK_le {v : VAL} (hv : isV v = true) : (valK v).length ≤ 520 := by
  unfold valK
  have h2 := of_decide_eq_true hv
  split
  · simp
  · rename_i h1
    have h3 : v.2.2.size ≤ 256 := by rcases h2 with h2 | h2; exact absurd h2.1 h1; exact h2.2.2
    have := esc_len v.2.2.data.toList
    rw [sym_len] at this
    rw [List.length_cons, List.length_append]; simp only [List.length_cons, List.length_nil]; omega
def Oks (l : List CD) : Prop := ∀ q, q ∈ l → okI q.2 ∧ ∀ v, v ∈ q.1 → okV v
theorem tup_le {t : List VAL} (h : ∀ v, v ∈ t → okV v) (ht : isT t = true) : (tupB t).length ≤ 2161 ∧ (keyB t).length ≤ 4160 := by
  have h8 := isT_len ht
  have h1 : ∀ v, v ∈ t → isV v = true := isT_all ht
  have a := len_flat (f := valB) (k := 270) (l := t) fun v hv => valB_le (h v hv) (h1 v hv)
  have b := len_flat (f := valK) (k := 520) (l := t) fun v hv => valK_le (h1 v hv)
  rw [tupB, keyB, List.length_cons]; omega
theorem entB_le {q : CD} (h : okI q.2 ∧ ∀ v, v ∈ q.1 → okV v) : (entB q).length ≤ 2200 := by
  rw [entB]
  split
  · rename_i ht
    have a := (tup_le h.2 ht).1
    have b := numB_10 (zig q.2) (zig_ok _ h.1).2
    rw [cntB, List.length_append]; omega
  · simp
def pgsF : List CD → List CD → List (List CD)
  | cur, [] => if cur = [] then [] else [cur]
  | cur, q :: l => if cur ≠ [] ∧ 256 < (cur.flatMap entB).length + (entB q).length then cur :: pgsF [q] l else pgsF (cur ++ [q]) l
def pgs (l : List CD) : List (List CD) := pgsF [] l
theorem pgsF_flat : ∀ (l cur : List CD), (pgsF cur l).flatten = cur ++ l
  | [], cur => by rw [pgsF]; split <;> simp_all
  | q :: l, cur => by
    rw [pgsF]; split
    · rw [List.flatten_cons, pgsF_flat l]; simp
    · rw [pgsF_flat l]; simp
theorem pgs_flat (l : List CD) : (pgs l).flatten = l := pgsF_flat l []
theorem pgsF_ne : ∀ (l cur : List CD) (p : List CD), p ∈ pgsF cur l → p ≠ []
  | [], cur, p, h => by
    rw [pgsF] at h; split at h
    · cases h
    · rw [List.mem_singleton.1 h]; assumption
  | q :: l, cur, p, h => by
    rw [pgsF] at h; split at h
    · rename_i hc
      rcases List.mem_cons.1 h with rfl | h
      · exact hc.1
      · exact pgsF_ne l _ p h
    · exact pgsF_ne l _ p h
theorem pgs_ne {l p : List CD} (h : p ∈ pgs l) : p ≠ [] := pgsF_ne _ _ _ h
theorem pgs_sub {l p : List CD} (h : p ∈ pgs l) : ∀ q, q ∈ p → q ∈ l := fun q hq => by rw [← pgs_flat l]; exact List.mem_flatten.2 ⟨p, h, hq⟩
theorem flatten_len {α : Type} : ∀ {ps : List (List α)}, (∀ p, p ∈ ps → p ≠ []) → ps.length ≤ ps.flatten.length
  | [], _ => Nat.le_refl _
  | p :: ps, h => by
    have h1 := List.length_pos_iff.2 (h p List.mem_cons_self)
    have h2 := flatten_len (ps := ps) fun q hq => h q (List.mem_cons_of_mem _ hq)
    rw [List.flatten_cons, List.length_append, List.length_cons]; omega
theorem pgs_len (l : List CD) : (pgs l).length ≤ l.length := by
  have := flatten_len (ps := pgs l) fun p hp => pgs_ne hp
  rwa [pgs_flat] at this
theorem mem_len {α : Type} : ∀ {ps : List (List α)} {p : List α}, p ∈ ps → p.length ≤ ps.flatten.length
  | q :: ps, p, h => by
    rw [List.flatten_cons, List.length_append]
    rcases List.mem_cons.1 h with rfl | h
    · omega
    · have := mem_len h; omega
theorem pgs_plen {l p : List CD} (h : p ∈ pgs l) : p.length ≤ l.length := by have := mem_len h; rwa [pgs_flat] at this
def pageB (p : List CD) : List UInt8 := sealC (numB p.length ++ p.flatMap entB)
def headT (p : List CD) : List VAL := (p.head?.map (·.1)).getD []
def leafB (p : List CD) : List UInt8 := numB (pageB p).length ++ textB (keyB (headT p))
def idxB (ps : List (List CD)) (n : Nat) : List UInt8 := sealC (numB ps.length ++ numB n ++ ps.flatMap leafB)
def low4 (k : Nat) : List UInt8 := [UInt8.ofNat k, UInt8.ofNat (k / 2 ^ 8), UInt8.ofNat (k / 2 ^ 16), UInt8.ofNat (k / 2 ^ 24)]
def tailB (k : Nat) : List UInt8 := sealC (low4 k)
def runB (l : List CD) : List UInt8 := (pgs l).flatMap pageB ++ idxB (pgs l) l.length ++ tailB (idxB (pgs l) l.length).length
theorem numB_le {k : Nat} (h : k ≤ 1000000000) : (numB k).length ≤ 10 := by have := numB_10 (k : Int) Zz; rwa [Int.toNat_natCast] at this
theorem ents_le {p : List CD} (h : Oks p) : (p.flatMap entB).length ≤ p.length * 2200 := len_flat fun q hq => entB_le (h q hq)
theorem pageB_le {p : List CD} (h : Oks p) (hl : p.length ≤ 100) : (pageB p).length ≤ 14 + p.length * 2200 := by
  have a := ents_le h
  have b := numB_le (k := p.length) Zz
  rw [pageB, seal_len, List.length_append]; omega
theorem headT_ok {p : List CD} (h : Oks p) (hT : ∀ q, q ∈ p → isT q.1 = true) : (keyB (headT p)).length ≤ 4160 := by
  cases p with
  | nil => exact (by decide : (0 : Nat) ≤ 4160)
  | cons q p => exact (tup_le (h q List.mem_cons_self).2 (hT q List.mem_cons_self)).2
theorem leafB_le {p : List CD} (h : Oks p) (hT : ∀ q, q ∈ p → isT q.1 = true) (hl : p.length ≤ 100) : (leafB p).length ≤ 4200 := by
  have a := pageB_le h hl
  have b := headT_ok h hT
  have c := numB_le (k := (pageB p).length) Zz
  have d := numB_le (k := (keyB (headT p)).length) Zz
  rw [leafB, textB, List.length_append, List.length_append]; omega
theorem Oks.sub {l p : List CD} (h : Oks l) (hp : ∀ q, q ∈ p → q ∈ l) : Oks p := fun q hq => h q (hp q hq)
theorem isR_T' {l : List CD} (h : isR l = true) : ∀ q, q ∈ l → isT q.1 = true ∧ q.2 ≠ 0 := fun q hq => by
  obtain ⟨i, hi⟩ := List.getElem?_of_mem hq
  have := okAt_t hi (isR_at h i); exact ⟨this.1, this.2.1⟩
theorem flat_sum : ∀ (ps : List (List CD)), (∀ p, p ∈ ps → Oks p ∧ p.length ≤ 100) → (ps.flatMap pageB).length ≤ ps.length * 14 + ps.flatten.length * 2200
  | [], _ => by simp
  | p :: ps, h => by
    have a := pageB_le (h p List.mem_cons_self).1 (h p List.mem_cons_self).2
    have b := flat_sum ps fun q hq => h q (List.mem_cons_of_mem _ hq)
    simp only [List.flatMap_cons, List.flatten_cons, List.length_append, List.length_cons]; omega
theorem run_sizes {l : List CD} (h : Oks l) (hr : isR l = true) (hl : l.length ≤ 100) : ((pgs l).flatMap pageB).length ≤ 222000 ∧ ((pgs l).flatMap leafB).length ≤ 420000 ∧ (idxB (pgs l) l.length).length ≤ 420100 ∧ (runB l).length ≤ 642200 := by
  have hp : ∀ p, p ∈ pgs l → Oks p ∧ p.length ≤ 100 := fun p hp => ⟨h.sub (pgs_sub hp), Nat.le_trans (pgs_plen hp) hl⟩
  have a := flat_sum (pgs l) hp
  rw [pgs_flat] at a
  have b := pgs_len l
  have c := len_flat (f := leafB) (k := 4200) (l := pgs l) fun p q => leafB_le (hp p q).1 (fun x hx => (isR_T' hr x (pgs_sub q x hx)).1) (hp p q).2
  have d := numB_le (k := (pgs l).length) Zz
  have e := numB_le (k := l.length) Zz
  have f : (idxB (pgs l) l.length).length ≤ 420100 := by rw [idxB, seal_len, List.length_append, List.length_append]; omega
  have g : (tailB (idxB (pgs l) l.length).length).length = 8 := by rw [tailB, seal_len]; rfl
  refine ⟨by omega, by omega, f, ?_⟩
  rw [runB, List.length_append, List.length_append, g]; omega
structure Fit (l : List CD) : Prop where
  ok : Oks l
  n : l.length ≤ 4000
  e : (l.flatMap entB).length ≤ 220000
  k : isR l = true → ((pgs l).flatMap leafB).length ≤ 420000
theorem Fit.of {l : List CD} (h : Oks l) (hl : l.length ≤ 100) : Fit l := ⟨h, by omega, by have := ents_le h; omega, fun hr => (run_sizes h hr hl).2.1⟩
theorem flat_mem {α : Type} {f : α → List UInt8} : ∀ {ps : List α} {p : α}, p ∈ ps → (f p).length ≤ (ps.flatMap f).length
  | q :: ps, p, h => by
    rw [List.flatMap_cons, List.length_append]
    rcases List.mem_cons.1 h with rfl | h
    · omega
    · have := flat_mem (f := f) h; omega
theorem flat_cut {α : Type} {f : α → List UInt8} (l : List α) (i : Nat) : (l.flatMap f).length = ((l.take i).flatMap f).length + ((l.drop i).flatMap f).length := by
  rw [← List.length_append, ← List.flatMap_append, List.take_append_drop i l]
theorem flat_take {α : Type} {f : α → List UInt8} (l : List α) (i : Nat) : ((l.take i).flatMap f).length ≤ (l.flatMap f).length := by have := flat_cut (f := f) l i; omega
theorem flat_drop {α : Type} {f : α → List UInt8} (l : List α) (i : Nat) : ((l.drop i).flatMap f).length ≤ (l.flatMap f).length := by have := flat_cut (f := f) l i; omega
theorem flat_flat {α : Type} {f : α → List UInt8} : ∀ (ps : List (List α)), (ps.flatMap fun p => p.flatMap f).length = (ps.flatten.flatMap f).length
  | [] => rfl
  | p :: ps => by simp only [List.flatMap_cons, List.flatten_cons, List.flatMap_append, List.length_append, flat_flat ps]
theorem Fit.page {l p : List CD} (h : Fit l) (hp : p ∈ pgs l) : Oks p ∧ p.length ≤ 4000 ∧ (p.flatMap entB).length ≤ 220000 := by
  refine ⟨h.ok.sub (pgs_sub hp), Nat.le_trans (pgs_plen hp) h.n, ?_⟩
  have := flat_mem (f := fun p : List CD => p.flatMap entB) hp
  rw [flat_flat, pgs_flat] at this
  exact Nat.le_trans this h.e
theorem pageB_fit {p : List CD} (hn : p.length ≤ 4000) (he : (p.flatMap entB).length ≤ 220000) : (pageB p).length ≤ 220014 := by
  have b := numB_le (k := p.length) Zz
  rw [pageB, seal_len, List.length_append]; omega
theorem leafB_fit {p : List CD} (h : Oks p) (hT : ∀ q, q ∈ p → isT q.1 = true) (hn : p.length ≤ 4000) (he : (p.flatMap entB).length ≤ 220000) : (leafB p).length ≤ 4200 := by
  have a := pageB_fit hn he
  have b := headT_ok h hT
  have c := numB_le (k := (pageB p).length) Zz
  have d := numB_le (k := (keyB (headT p)).length) Zz
  rw [leafB, textB, List.length_append, List.length_append]; omega
theorem page_sum : ∀ (ps : List (List CD)), (∀ p, p ∈ ps → p.length ≤ 4000) → (ps.flatMap pageB).length ≤ ps.length * 14 + (ps.flatMap fun p => p.flatMap entB).length
  | [], _ => by simp
  | p :: ps, h => by
    have b := page_sum ps fun q hq => h q (List.mem_cons_of_mem _ hq)
    have a := numB_le (k := p.length) (by have := h p List.mem_cons_self; omega)
    have c : (pageB p).length = (numB p.length).length + (p.flatMap entB).length + 4 := by rw [pageB, seal_len, List.length_append]
    simp only [List.flatMap_cons, List.length_append, List.length_cons]; omega
theorem Fit.sizes {l : List CD} (h : Fit l) (hr : isR l = true) : ((pgs l).flatMap pageB).length ≤ 276000 ∧ ((pgs l).flatMap leafB).length ≤ 420000 ∧ (idxB (pgs l) l.length).length ≤ 420100 ∧ (runB l).length ≤ 696200 := by
  have a := page_sum (pgs l) fun p hp => (h.page hp).2.1
  rw [flat_flat, pgs_flat] at a
  have b := pgs_len l
  have hn := h.n
  have he := h.e
  have c := h.k hr
  have d := numB_le (k := (pgs l).length) Zz
  have e := numB_le (k := l.length) Zz
  have f : (idxB (pgs l) l.length).length ≤ 420100 := by rw [idxB, seal_len, List.length_append, List.length_append]; omega
  have g : (tailB (idxB (pgs l) l.length).length).length = 8 := by rw [tailB, seal_len]; rfl
  refine ⟨by omega, by omega, f, ?_⟩
  rw [runB, List.length_append, List.length_append, g]; omega
theorem NumN_c (k : Nat) (h : k ≤ 1000000000) (w : World) : Ret Tryz.prog 52 #[.int .u64 (k : Int)] w fun v w' => FreshB w w' v (numB k) := by
  have := Num_c (k : Int) Zz Zz w
  rwa [Int.toNat_natCast] at this
theorem RNumN_c (k : Nat) (h : k ≤ 1000000000) (w : World) : Ret Tryz.prog 55 #[.int .u64 (k : Int)] w fun v w' => FreshB w w' v (numB k) := by
  have := RNum_c (k : Int) Zz Zz w
  rwa [Int.toNat_natCast] at this
theorem sealed_c {lo hi : Nat} {A : Option Addr} {n c : Nat} {l : List CD} (w : World) (hs : Sl KC lo hi w A n l) (hhi : hi ≤ w.heap.size) (hn : n ≤ 4000) (he : (l.flatMap entB).length ≤ 220000) (hok : Oks l) (hnc : n ≤ c) (hTb : TabOk w) : Ret Tryz.prog 50 #[.slice A n c] w fun r w' => FreshB w w' r (pageB l) := by
 obtain ⟨L, hsL, hLl, hLt⟩ := kc_hd hs
 have hsl := hs.len
 have hsb := hs.bound
 refine X.enter Tryz.func50 rfl Tryz.ntmps50 rfl<|Zs<|Zr<|Zoa rfl rfl<|Ze<|Zs<|Zr<|Zoms rfl rfl<|Zo (X.lenSl Zu22 rfl) rfl<|Zo (X.cvI Zu3 Tryz.underlying119 rfl (X.w_u64 Zz)) rfl<|Zc (X.callE (NumN_c _ Zz _) Tryz.call52 rfl rfl) rfl ?_
 rintro v1 w1 ⟨hM1, hk1⟩
 have hk1' := hk1.size
 refine Zoa rfl rfl<|Ze<|Zs<|Zs<|Zr<|Zoms rfl rfl<|Zo (X.lenSl Zu22 rfl) rfl<|Zom rfl rfl<|Ze<|Zb ?_
 have hM0 := hM1
 refine X.loopL (σ := Nat × Value) (fun s => [(3, s.2), (10, .slice A n c), (11, .int .i64 (n : Int)), (12, .int .i64 (s.1 : Int))]) (fun s w' => s.1 ≤ n ∧ Mine KB 5 (fun k => w.heap.size ≤ k) 0 0 w' s.2 (numB n ++ (l.take s.1).flatMap entB) ∧ Keep w w') (fun s => n - s.1) (0, v1) ⟨rfl, rfl, rfl, rfl, trivial⟩ ⟨by omega, (by simpa using hM0), hk1⟩ ?_
 rintro ⟨i, bv⟩ b w1 ⟨hi, hM, hk⟩ hback
 dsimp only at hi hM
 have hk0 := hk.size
 refine Zs<|Zr<|X.opP X.wN rfl rfl (X.lss rfl rfl) (fun h13 => ?_) (fun h13 => ?_)
 ·obtain ⟨x, hx⟩ : ∃ x, L[i]? = some x := ⟨_, List.getElem?_eq_getElem Zz⟩
  obtain ⟨q, hq, eq, oq, nq, ht⟩ := hLt _ _ hx
  have hbq := entB_le (hok q (List.mem_of_getElem? hq))
  have hbt := flat_take (f := entB) l i
  have hbn := numB_le (k := n) Zz
  refine Ze<|Zs<|Zt rfl<|Zk<|Zs<|Zb<|Zs<|Zr<|Zo (X.idxS (hsL.keep hk) Zu22 Zs40 rfl rfl ⟨by omega, by omega⟩) rfl<|Zo (X.loadSN Zi40 Zs40 (hsL.keep hk) hx rfl (fun _ h => h.1) rfl) rfl<|Zc (X.allocE Zv40 rfl) rfl ?_
  rintro _ w2 ⟨rfl, hB2, hk2, hz2⟩
  refine Zc (X.storeNE Zs40 hB2 rfl rfl rfl rfl (fun u hu => by simp at hu; rcases hu with rfl | rfl <;> rfl)) rfl ?_
  rintro _ w3 ⟨hB3, hx3, hz3⟩
  refine Ze<|Zr<|Zom rfl rfl<|Zo (X.loadNB Zi40 Zs40 hB3 rfl rfl rfl) rfl<|Zc (X.callE (entry_c (q := q) _ (ht.keep ((hk.trans hk2).step hx3 zq34)) Zz (by rw [eq]; exact oq) eq) Tryz.call102 rfl rfl) rfl ?_
  rintro v4 w4 ⟨hM4, hk4⟩
  have hk4' := hk4.size
  have q5 := hM4.slF KB_flat 0 (fun _ _ => Nat.zero_le _)
  obtain ⟨A5, c5, rfl, hc5, hs5⟩ := q5
  refine Zc (X.appE (K := KB) (S := fun k => w.heap.size ≤ k) KB_flat Zu43 E5 rfl rfl (hM.keep ((hk2.step hx3 zq34).trans hk4)) hs5 zq15 zq34) rfl ?_
  rintro v6 w6 ⟨hM6, hx6⟩
  have hx6' := hx6.size
  refine Zoa rfl rfl<|Ze<|Zi<|Zr<|Zo (X.add rfl rfl (X.w_i64 Zz)) rfl<|Zomi rfl rfl<|Ze ?_
  refine hback (i + 1, v6) _ _ ⟨rfl, rfl, rfl, rfl, trivial⟩ ⟨by (try dsimp only); omega, by (try dsimp only); rw [flat_step entB hq, ← List.append_assoc]; exact hM6, ((((hk.trans hk2).step hx3 zq34).trans hk4).step hx6 zq34)⟩ (by (try dsimp only); omega)
 ·have hin : i = n := by omega
  subst hin
  rw [List.take_of_length_le Zz] at hM
  have hbt := he
  have hbn := numB_le (k := i) Zz
  refine Ze<|Zs<|Zf rfl<|Zx rfl<|Zs<|Zr<|Zom rfl rfl ?_
  have q8 := hM.slF KB_flat 0 (fun _ _ => Nat.zero_le _)
  obtain ⟨A8, c8, rfl, hc8, hs8⟩ := q8
  refine Zc (X.callE (Seal_c _ hs8 Zz (by assumption) (by first | omega | (simp only [List.length_append]; omega)) (hTb.keep hk)) Tryz.call54 rfl rfl) rfl ?_
  rintro v7 w7 ⟨hM7, hk7⟩
  have hk7' := hk7.size
  refine Zoa rfl rfl<|Ze<|X.ret1 Tryz.func50 Tryz.results50 rfl ?_
  rw [pageB, hsl]
  exact ⟨hM7.mono (fun k _ hk => by (try simp only [] at *); omega), (hk.trans hk7)⟩
theorem RpageBytes_c {lo hi : Nat} {A : Option Addr} {n c : Nat} {l : List CD} (w : World) (hs : Sl KC lo hi w A n l) (hhi : hi ≤ w.heap.size) (hn : n ≤ 4000) (he : (l.flatMap entB).length ≤ 220000) (hok : Oks l) (hnc : n ≤ c) : Ret Tryz.prog 56 #[.slice A n c] w fun r w' => FreshB w w' r (pageB l) := by
 obtain ⟨L, hsL, hLl, hLt⟩ := kc_hd hs
 have hsl := hs.len
 have hsb := hs.bound
 refine X.enter Tryz.func56 rfl Tryz.ntmps56 rfl<|Zs<|Zr<|Zoa rfl rfl<|Ze<|Zs<|Zr<|Zoms rfl rfl<|Zo (X.lenSl Zu22 rfl) rfl<|Zo (X.cvI Zu3 Tryz.underlying119 rfl (X.w_u64 Zz)) rfl<|Zc (X.callE (RNumN_c _ Zz _) Tryz.call55 rfl rfl) rfl ?_
 rintro v1 w1 ⟨hM1, hk1⟩
 have hk1' := hk1.size
 refine Zoa rfl rfl<|Ze<|Zs<|Zs<|Zr<|Zoa rfl rfl<|Ze<|Zb ?_
 have hM0 := hM1
 refine X.loopL (σ := Nat × Value) (fun s => [(0, .slice A n c), (3, s.2), (4, .int .i64 (s.1 : Int))]) (fun s w' => s.1 ≤ n ∧ Mine KB 5 (fun k => w.heap.size ≤ k) 0 0 w' s.2 (numB n ++ (l.take s.1).flatMap entB) ∧ Keep w w') (fun s => n - s.1) (0, v1) ⟨rfl, rfl, rfl, trivial⟩ ⟨by omega, (by simpa using hM0), hk1⟩ ?_
 rintro ⟨i, bv⟩ b w1 ⟨hi, hM, hk⟩ hback
 dsimp only at hi hM
 have hk0 := hk.size
 refine Zs<|Zs<|Zr<|Zomi rfl rfl<|Zoms rfl rfl<|Zo (X.lenSl Zu22 rfl) rfl<|X.opP X.wN rfl rfl (X.lss rfl rfl) (fun h12 => ?_) (fun h12 => ?_)
 ·obtain ⟨x, hx⟩ : ∃ x, L[i]? = some x := ⟨_, List.getElem?_eq_getElem Zz⟩
  obtain ⟨q, hq, eq, oq, nq, ht⟩ := hLt _ _ hx
  have hbq := entB_le (hok q (List.mem_of_getElem? hq))
  have hbt := flat_take (f := entB) l i
  have hbn := numB_le (k := n) Zz
  refine Ze<|Zt rfl<|Zk<|Zs<|Zb<|Zr<|Zom rfl rfl<|Zoms rfl rfl<|Zomi rfl rfl<|Zo (X.idxS (hsL.keep hk) Zu22 Zs40 rfl rfl ⟨by omega, by omega⟩) rfl<|Zo (X.loadSN Zi40 Zs40 (hsL.keep hk) hx rfl (fun _ h => h.1) rfl) rfl<|Zc (X.callE (Rentry_c (q := q) _ (ht.keep hk) Zz (by rw [eq]; exact oq) eq) Tryz.call63 rfl rfl) rfl ?_
  rintro v2 w2 ⟨hM2, hk2⟩
  have hk2' := hk2.size
  have q3 := hM2.slF KB_flat 0 (fun _ _ => Nat.zero_le _)
  obtain ⟨A3, c3, rfl, hc3, hs3⟩ := q3
  refine Zc (X.appE (K := KB) (S := fun k => w.heap.size ≤ k) KB_flat Zu43 E5 rfl rfl (hM.keep hk2) hs3 zq15 zq34) rfl ?_
  rintro v4 w4 ⟨hM4, hx4⟩
  have hx4' := hx4.size
  refine Zoa rfl rfl<|Ze<|Zi<|Zr<|Zomi rfl rfl<|Zo (X.add rfl rfl (X.w_i64 Zz)) rfl<|Zoai rfl rfl<|Ze ?_
  refine hback (i + 1, v4) _ _ ⟨rfl, rfl, rfl, trivial⟩ ⟨by (try dsimp only); omega, by (try dsimp only); rw [flat_step entB hq, ← List.append_assoc]; exact hM4, ((hk.trans hk2).step hx4 zq34)⟩ (by (try dsimp only); omega)
 ·have hin : i = n := by omega
  subst hin
  rw [List.take_of_length_le Zz] at hM
  have hbt := he
  have hbn := numB_le (k := i) Zz
  refine Ze<|Zf rfl<|Zx rfl<|Zs<|Zr<|Zom rfl rfl ?_
  have q6 := hM.slF KB_flat 0 (fun _ _ => Nat.zero_le _)
  obtain ⟨A6, c6, rfl, hc6, hs6⟩ := q6
  refine Zc (X.callE (RSeal_c _ hs6 (by first | omega | (simp only [List.length_append]; omega))) Tryz.call59 rfl rfl) rfl ?_
  rintro v5 w5 ⟨hM5, hk5⟩
  have hk5' := hk5.size
  refine Zoa rfl rfl<|Ze<|X.ret1 Tryz.func56 Tryz.results56 rfl ?_
  rw [pageB, hsl]
  exact ⟨hM5.mono (fun k _ hk => by (try simp only [] at *); omega), (hk.trans hk5)⟩
end Go.Proofs.YtbljooblpfdbiaaGreatDoor
