/- What TakeNum, TakeInt, TakeText, TakeTuple, TakeCounted tell. -/
import Derived.Test.YtaclpphhidlgpaaPackV
namespace Go.Proofs.Ytaclpphhidlgpaa
open Go Go.Proofs.Ytaclpphhidlgpaa.X
set_option linter.unusedVariables false
set_option linter.unusedSimpArgs false

/-- How many bytes a reading had, its code, what it told. -/
def cnt {α : Type} (o : Option (α × List UInt8)) (n : Nat) : Int := match o with
  | some b => (n : Int) - (b.2.length : Int)
  | none => 0
def code {α : Type} (o : Option (α × List UInt8)) : Int := if o.isSome then 0 else 30
def told {α : Type} (o : Option (α × List UInt8)) (z : α) : α := match o with
  | some b => b.1
  | none => z

-- f50 "pedigree/pack.TakeNum$1" params [81] results [33] -> [(ResultVar.tmp 2)] nfree 0 ntmps 5 names ["r", "
set_option maxHeartbeats 4000000 in
set_option maxRecDepth 100000 in
theorem takeNum1_c (hi rb T : Nat) (xs : List UInt8) (w : World) (hr : Rd w hi rb T xs) : PP 50 #[.pointer (some ⟨rb, 0, none⟩)] w hi rb T (pNum 0 0 xs) (fun a v _ => v = .int .u64 ((a : Nat) : Int)) := by
  have hrl := hr.lt
  refine X.enter Try.func50 rfl Try.ntmps50 rfl ?_
  refine X.seq ?_
  refine X.region ?_
  refine X.opw X.wN rfl (X.assign rfl) ?_
  refine X.opsEnd ?_
  refine X.seq ?_
  refine X.region ?_
  refine X.opw X.wN rfl (X.move rfl) ?_
  refine X.opPR (num_c hi rb T _ _ hr) X.wN rfl Try.call51 rfl (fun b1 hb1 => ?_) (fun hb1 => ?_)
  · rintro _ w1 ⟨⟨rfl, hn1⟩, hR1, hx1⟩
    have hx1' := hx1.size
    refine X.opw X.wN rfl (X.assign (v := .int .u64 _) rfl) ?_
    refine X.opsEnd ?_
    refine X.ret1 (v := (.int .u64 _)) Try.func50 Try.results50 rfl ?_
    rw [hb1]
    exact ⟨_, rfl, rfl, hR1, (Ext.andThen (Ext.refl (fun k => k = rb) _) hx1 (by intro k h1 h2; first | exact h2.elim | omega | (simp only [] at *; omega)))⟩
  · rintro w1 hx1
    have hx1' := hx1.size
    refine X.unw_pan Try.func50 ?_
    rw [hb1]
    exact ⟨rfl, (Ext.andThen (Ext.refl (fun k => k = rb) _) hx1 (by intro k h1 h2; first | exact h2.elim | omega | (simp only [] at *; omega)))⟩
-- f53 "pedigree/pack.TakeInt$1" params [81] results [2] -> [(ResultVar.tmp 2)] nfree 0 ntmps 5 names ["r", "r
set_option maxHeartbeats 4000000 in
set_option maxRecDepth 100000 in
theorem takeInt1_c (hi rb T : Nat) (xs : List UInt8) (w : World) (hr : Rd w hi rb T xs) : PP 53 #[.pointer (some ⟨rb, 0, none⟩)] w hi rb T (pInt xs) (fun a v _ => v = .int .i64 a) := by
  have hrl := hr.lt
  refine X.enter Try.func53 rfl Try.ntmps53 rfl ?_
  refine X.seq ?_
  refine X.region ?_
  refine X.opw X.wN rfl (X.assign rfl) ?_
  refine X.opsEnd ?_
  refine X.seq ?_
  refine X.region ?_
  refine X.opw X.wN rfl (X.move rfl) ?_
  refine X.opPR (whole_c hi rb T _ _ hr) X.wN rfl Try.call54 rfl (fun b1 hb1 => ?_) (fun hb1 => ?_)
  · rintro _ w1 ⟨⟨rfl, hn1⟩, hR1, hx1⟩
    have hx1' := hx1.size
    refine X.opw X.wN rfl (X.assign (v := .int .i64 _) rfl) ?_
    refine X.opsEnd ?_
    refine X.ret1 (v := (.int .i64 _)) Try.func53 Try.results53 rfl ?_
    rw [hb1]
    exact ⟨_, rfl, rfl, hR1, (Ext.andThen (Ext.refl (fun k => k = rb) _) hx1 (by intro k h1 h2; first | exact h2.elim | omega | (simp only [] at *; omega)))⟩
  · rintro w1 hx1
    have hx1' := hx1.size
    refine X.unw_pan Try.func53 ?_
    rw [hb1]
    exact ⟨rfl, (Ext.andThen (Ext.refl (fun k => k = rb) _) hx1 (by intro k h1 h2; first | exact h2.elim | omega | (simp only [] at *; omega)))⟩
-- f58 "pedigree/pack.TakeTuple$1" params [81] results [23] -> [(ResultVar.tmp 2)] nfree 0 ntmps 5 names ["r",
set_option maxHeartbeats 4000000 in
set_option maxRecDepth 100000 in
theorem takeTup1_c (hi rb T : Nat) (xs : List UInt8) (w : World) (hr : Rd w hi rb T xs) : PP 58 #[.pointer (some ⟨rb, 0, none⟩)] w hi rb T (pTup xs) (fun a v w' => Mine KV 75 (fun k => w.heap.size ≤ k) 0 0 w' v a) := by
  have hrl := hr.lt
  refine X.enter Try.func58 rfl Try.ntmps58 rfl ?_
  refine X.seq ?_
  refine X.region ?_
  refine X.opw X.wN rfl (X.assign rfl) ?_
  refine X.opsEnd ?_
  refine X.seq ?_
  refine X.region ?_
  refine X.opw X.wN rfl (X.move rfl) ?_
  refine X.opPR (tuple_c hi rb T _ _ hr) X.wN rfl Try.call59 rfl (fun b1 hb1 => ?_) (fun hb1 => ?_)
  · rintro v1 w1 ⟨⟨hM1, hn1⟩, hR1, hx1⟩
    have hx1' := hx1.size
    refine X.opw X.wN rfl (X.assign rfl) ?_
    refine X.opsEnd ?_
    refine X.ret1 Try.func58 Try.results58 rfl ?_
    rw [hb1]
    exact ⟨_, rfl, hM1, hR1, (Ext.andThen (Ext.refl (fun k => k = rb) _) hx1 (by intro k h1 h2; first | exact h2.elim | omega | (simp only [] at *; omega)))⟩
  · rintro w1 hx1
    have hx1' := hx1.size
    refine X.unw_pan Try.func58 ?_
    rw [hb1]
    exact ⟨rfl, (Ext.andThen (Ext.refl (fun k => k = rb) _) hx1 (by intro k h1 h2; first | exact h2.elim | omega | (simp only [] at *; omega)))⟩
-- f56 "pedigree/pack.TakeText$1" params [81] results [25] -> [(ResultVar.tmp 3)] nfree 1 ntmps 7 names ["r", 
set_option maxHeartbeats 4000000 in
set_option maxRecDepth 100000 in
theorem takeText1_c (most : Int) (hmo : okI most) (bm : Nat) (hi rb T : Nat) (xs : List UInt8) (w : World) (hr : Rd w hi rb T xs) (hB : Blk w bm [.int .i64 most] 3) : PP 56 #[.pointer (some ⟨rb, 0, none⟩), .pointer (some ⟨bm, 0, none⟩)] w hi rb T (pText most xs) (fun a v w' => Mine KB 5 (fun k => w.heap.size ≤ k) 0 0 w' v a) := by
  have hrl := hr.lt
  refine X.enter Try.func56 rfl Try.ntmps56 rfl ?_
  refine X.seq ?_
  refine X.region ?_
  refine X.opw X.wN rfl (X.assign rfl) ?_
  refine X.opsEnd ?_
  refine X.seq ?_
  refine X.region ?_
  refine X.opw X.wN rfl (X.move rfl) ?_
  refine X.opw X.wN rfl (X.load1B Try.isAgg3 hB rfl rfl) ?_
  refine X.opPR (text_c most hmo hi rb T _ _ hr) X.wN rfl Try.call57 rfl (fun b1 hb1 => ?_) (fun hb1 => ?_)
  · rintro v1 w1 ⟨hM1, hR1, hx1⟩
    have hx1' := hx1.size
    refine X.opw X.wN rfl (X.assign rfl) ?_
    refine X.opsEnd ?_
    refine X.ret1 Try.func56 Try.results56 rfl ?_
    rw [hb1]
    exact ⟨_, rfl, hM1, hR1, (Ext.andThen (Ext.refl (fun k => k = rb) _) hx1 (by intro k h1 h2; first | exact h2.elim | omega | (simp only [] at *; omega)))⟩
  · rintro w1 hx1
    have hx1' := hx1.size
    refine X.unw_pan Try.func56 ?_
    rw [hb1]
    exact ⟨rfl, (Ext.andThen (Ext.refl (fun k => k = rb) _) hx1 (by intro k h1 h2; first | exact h2.elim | omega | (simp only [] at *; omega)))⟩
theorem tNum_c {A : Option Addr} {n c : Nat} {xs : List UInt8} (w : World) (hs : Sl KB 0 w.heap.size w A n xs) (hnc : n ≤ c) (hn : n ≤ 1000000) :
    Ret Try.prog 49 #[.slice A n c, .func (.func 50) #[] #[]] w fun r w' => r = .tuple #[.int .u64 ((told (pNum 0 0 xs) 0 : Nat) : Int), .int .i64 (cnt (pNum 0 0 xs) n), .int .i64 (code (pNum 0 0 xs))] ∧ Keep w w' := by
  refine (take_u64 (pNum 0 0) (fun _ a v _ => v = .int .u64 ((a : Nat) : Int)) 50 [] Try.call50 xs A n c w hs hnc hn (fun wb a v w1 h => by rw [h]; rfl) (fun wb a v w1 w2 U h x hU => h) (fun w' rb hk hR => takeNum1_c rb rb n xs w' hR)).mono fun r w' h => ?_
  obtain ⟨h, hk⟩ := h
  cases hp : pNum 0 0 xs with
  | none => rw [hp] at h; exact ⟨h, hk⟩
  | some b => obtain ⟨a, ys⟩ := b; rw [hp] at h; obtain ⟨v, wb, h1, h2, _⟩ := h; subst h2; exact ⟨h1, hk⟩
theorem tInt_c {A : Option Addr} {n c : Nat} {xs : List UInt8} (w : World) (hs : Sl KB 0 w.heap.size w A n xs) (hnc : n ≤ c) (hn : n ≤ 1000000) :
    Ret Try.prog 52 #[.slice A n c, .func (.func 53) #[] #[]] w fun r w' => r = .tuple #[.int .i64 (told (pInt xs) 0), .int .i64 (cnt (pInt xs) n), .int .i64 (code (pInt xs))] ∧ Keep w w' := by
  refine (take_i64 pInt (fun _ a v _ => v = .int .i64 a) 53 [] Try.call53 xs A n c w hs hnc hn (fun wb a v w1 h => by rw [h]; rfl) (fun wb a v w1 w2 U h x hU => h) (fun w' rb hk hR => takeInt1_c rb rb n xs w' hR)).mono fun r w' h => ?_
  obtain ⟨h, hk⟩ := h
  cases hp : pInt xs with
  | none => rw [hp] at h; exact ⟨h, hk⟩
  | some b => obtain ⟨a, ys⟩ := b; rw [hp] at h; obtain ⟨v, wb, h1, h2, _⟩ := h; subst h2; exact ⟨h1, hk⟩
theorem tTup_c {A : Option Addr} {n c : Nat} {xs : List UInt8} (w : World) (hs : Sl KB 0 w.heap.size w A n xs) (hnc : n ≤ c) (hn : n ≤ 1000000) :
    Ret Try.prog 45 #[.slice A n c, .func (.func 58) #[] #[]] w fun r w' => ∃ v, r = .tuple #[v, .int .i64 (cnt (pTup xs) n), .int .i64 (code (pTup xs))] ∧ Mine KV 75 (fun k => w.heap.size ≤ k) 0 0 w' v (told (pTup xs) []) ∧ Keep w w' := by
  refine (take_tup pTup (fun wb a v w1 => Mine KV 75 (fun k => wb.heap.size ≤ k) 0 0 w1 v a) 58 [] Try.call58 xs A n c w hs hnc hn (fun wb a v w1 h => mineV1 h)
    (fun wb a v w1 w2 U h x hU => h.ext x (fun k _ hk => by omega) (fun k hk hu => by have := hU k hu; omega)) (fun w' rb hk hR => takeTup1_c rb rb n xs w' hR)).mono fun r w' h => ?_
  obtain ⟨h, hk⟩ := h
  cases hp : pTup xs with
  | none => rw [hp] at h; exact ⟨_, h, Mine.nil _ _ _ _ _ _, hk⟩
  | some b => obtain ⟨a, ys⟩ := b; rw [hp] at h; obtain ⟨v, wb, h1, h2, h3, _⟩ := h; exact ⟨v, h1, h2.mono (fun k _ hk' => Nat.le_trans h3.size hk'), hk⟩
theorem tCnt_c {A : Option Addr} {n c : Nat} {xs : List UInt8} (w : World) (hs : Sl KB 0 w.heap.size w A n xs) (hnc : n ≤ c) (hn : n ≤ 1000000) :
    Ret Try.prog 61 #[.slice A n c, .func (.func 62) #[] #[]] w fun r w' => ∃ v, r = .tuple #[.agg #[v, .int .i64 (told (pCnt xs) ([], 0)).2], .int .i64 (cnt (pCnt xs) n), .int .i64 (code (pCnt xs))] ∧ Mine KV 75 (fun k => w.heap.size ≤ k) 0 0 w' v (told (pCnt xs) ([], 0)).1 ∧ Keep w w' := by
  refine (take_cnt pCnt (fun wb a v w1 => ∃ u, v = .agg #[u, .int .i64 a.2] ∧ Mine KV 75 (fun k => wb.heap.size ≤ k) 0 0 w1 u a.1 ∧ (∀ z ∈ a.1, okV z) ∧ a.1.length ≤ 8 ∧ okI a.2) 62 [] Try.call62 xs A n c w hs hnc hn
    (fun wb a v w1 ⟨u, e, h, _⟩ => ⟨[u, .int .i64 a.2], e, rfl, fun z hz => by simp at hz; rcases hz with rfl | rfl; exact mineV1 h; rfl⟩)
    (fun wb a v w1 w2 U ⟨u, e, h, h'⟩ x hU => ⟨u, e, h.ext x (fun k _ hk => by omega) (fun k hk hu => by have := hU k hu; omega), h'⟩) (fun w' rb hk hR => takeCnt1_c rb rb n xs w' hR)).mono fun r w' h => ?_
  obtain ⟨h, hk⟩ := h
  cases hp : pCnt xs with
  | none => rw [hp] at h; exact ⟨_, h, Mine.nil _ _ _ _ _ _, hk⟩
  | some b => obtain ⟨a, ys⟩ := b; rw [hp] at h; obtain ⟨v, wb, h1, ⟨u, e, h2, _⟩, h3, _⟩ := h; subst e; exact ⟨u, h1, h2.mono (fun k _ hk' => Nat.le_trans h3.size hk'), hk⟩
-- f31 "pedigree/pack.TakeNum" params [25] results [33, 3, 26] -> [(ResultVar.tmp 2), (ResultVar.tmp 3), (Resu
set_option maxHeartbeats 4000000 in
set_option maxRecDepth 100000 in
theorem TakeNum_c {A : Option Addr} {n c : Nat} {xs : List UInt8} (w : World) (hs : Sl KB 0 w.heap.size w A n xs) (hnc : n ≤ c) (hn : n ≤ 1000000) : Ret Try.prog 31 #[.slice A n c] w fun r w' => r = .tuple #[.int .u64 ((told (pNum 0 0 xs) 0 : Nat) : Int), .int .i64 (cnt (pNum 0 0 xs) n), .int .i64 (code (pNum 0 0 xs))] ∧ Keep w w' := by
  refine X.enter Try.func31 rfl Try.ntmps31 rfl ?_
  refine X.seq ?_
  refine X.region ?_
  refine X.opw X.wN rfl (X.assign rfl) ?_
  refine X.opw X.wN rfl (X.assign rfl) ?_
  refine X.opw X.wN rfl (X.assign rfl) ?_
  refine X.opsEnd ?_
  refine X.seq ?_
  refine X.region ?_
  refine X.opw X.wN rfl (X.move (v := .slice _ _ _) rfl) ?_
  refine X.opE X.wN rfl (X.callE (tNum_c _ hs hnc hn) Try.call49 rfl rfl) ?_
  rintro _ w1 ⟨rfl, hk1⟩
  have hk1' := hk1.size
  refine X.opw X.wN rfl (X.extr rfl rfl) ?_
  refine X.opw X.wN rfl (X.extr rfl rfl) ?_
  refine X.opw X.wN rfl (X.extr rfl rfl) ?_
  refine X.opw X.wN rfl (X.assign (v := .int .u64 _) rfl) ?_
  refine X.opw X.wN rfl (X.assign (v := .int .i64 _) rfl) ?_
  refine X.opw X.wN rfl (X.assign (v := .int .i64 _) rfl) ?_
  refine X.opsEnd ?_
  refine X.ret3 (v1 := (.int .u64 _)) (v2 := (.int .i64 _)) (v3 := (.int .i64 _)) Try.func31 Try.results31 rfl rfl rfl ?_
  exact ⟨rfl, hk1⟩
-- f33 "pedigree/pack.TakeInt" params [25] results [2, 3, 26] -> [(ResultVar.tmp 2), (ResultVar.tmp 3), (Resul
set_option maxHeartbeats 4000000 in
set_option maxRecDepth 100000 in
theorem TakeInt_c {A : Option Addr} {n c : Nat} {xs : List UInt8} (w : World) (hs : Sl KB 0 w.heap.size w A n xs) (hnc : n ≤ c) (hn : n ≤ 1000000) : Ret Try.prog 33 #[.slice A n c] w fun r w' => r = .tuple #[.int .i64 (told (pInt xs) 0), .int .i64 (cnt (pInt xs) n), .int .i64 (code (pInt xs))] ∧ Keep w w' := by
  refine X.enter Try.func33 rfl Try.ntmps33 rfl ?_
  refine X.seq ?_
  refine X.region ?_
  refine X.opw X.wN rfl (X.assign rfl) ?_
  refine X.opw X.wN rfl (X.assign rfl) ?_
  refine X.opw X.wN rfl (X.assign rfl) ?_
  refine X.opsEnd ?_
  refine X.seq ?_
  refine X.region ?_
  refine X.opw X.wN rfl (X.move (v := .slice _ _ _) rfl) ?_
  refine X.opE X.wN rfl (X.callE (tInt_c _ hs hnc hn) Try.call52 rfl rfl) ?_
  rintro _ w1 ⟨rfl, hk1⟩
  have hk1' := hk1.size
  refine X.opw X.wN rfl (X.extr rfl rfl) ?_
  refine X.opw X.wN rfl (X.extr rfl rfl) ?_
  refine X.opw X.wN rfl (X.extr rfl rfl) ?_
  refine X.opw X.wN rfl (X.assign (v := .int .i64 _) rfl) ?_
  refine X.opw X.wN rfl (X.assign (v := .int .i64 _) rfl) ?_
  refine X.opw X.wN rfl (X.assign (v := .int .i64 _) rfl) ?_
  refine X.opsEnd ?_
  refine X.ret3 (v1 := (.int .i64 _)) (v2 := (.int .i64 _)) (v3 := (.int .i64 _)) Try.func33 Try.results33 rfl rfl rfl ?_
  exact ⟨rfl, hk1⟩
-- f37 "pedigree/pack.TakeTuple" params [25] results [23, 3, 26] -> [(ResultVar.tmp 2), (ResultVar.tmp 3), (Re
set_option maxHeartbeats 4000000 in
set_option maxRecDepth 100000 in
theorem TakeTuple_c {A : Option Addr} {n c : Nat} {xs : List UInt8} (w : World) (hs : Sl KB 0 w.heap.size w A n xs) (hnc : n ≤ c) (hn : n ≤ 1000000) : Ret Try.prog 37 #[.slice A n c] w fun r w' => ∃ v, r = .tuple #[v, .int .i64 (cnt (pTup xs) n), .int .i64 (code (pTup xs))] ∧ Mine KV 75 (fun k => w.heap.size ≤ k) 0 0 w' v (told (pTup xs) []) ∧ Keep w w' := by
  refine X.enter Try.func37 rfl Try.ntmps37 rfl ?_
  refine X.seq ?_
  refine X.region ?_
  refine X.opw X.wN rfl (X.assign rfl) ?_
  refine X.opw X.wN rfl (X.assign rfl) ?_
  refine X.opw X.wN rfl (X.assign rfl) ?_
  refine X.opsEnd ?_
  refine X.seq ?_
  refine X.region ?_
  refine X.opw X.wN rfl (X.move (v := .slice _ _ _) rfl) ?_
  refine X.opE X.wN rfl (X.callE (tTup_c _ hs hnc hn) Try.call45 rfl rfl) ?_
  rintro _ w1 ⟨v1, rfl, hM1, hk1⟩
  have hk1' := hk1.size
  refine X.opw X.wN rfl (X.extr rfl rfl) ?_
  refine X.opw X.wN rfl (X.extr rfl rfl) ?_
  refine X.opw X.wN rfl (X.extr rfl rfl) ?_
  refine X.opw X.wN rfl (X.assign rfl) ?_
  refine X.opw X.wN rfl (X.assign (v := .int .i64 _) rfl) ?_
  refine X.opw X.wN rfl (X.assign (v := .int .i64 _) rfl) ?_
  refine X.opsEnd ?_
  refine X.ret3 (v2 := (.int .i64 _)) (v3 := (.int .i64 _)) Try.func37 Try.results37 rfl rfl rfl ?_
  exact ⟨_, rfl, hM1, hk1⟩
theorem tText_c (most : Int) (hmo : okI most) (bm : Nat) {A : Option Addr} {n c : Nat} {xs : List UInt8} (w : World) (hB : Blk w bm [.int .i64 most] 3) (hs : Sl KB 0 w.heap.size w A n xs) (hnc : n ≤ c) (hn : n ≤ 1000000) :
    Ret Try.prog 55 #[.slice A n c, .func (.func 56) #[] #[.pointer (some ⟨bm, 0, none⟩)]] w fun r w' => ∃ v, r = .tuple #[v, .int .i64 (cnt (pText most xs) n), .int .i64 (code (pText most xs))] ∧ Mine KB 5 (fun k => w.heap.size ≤ k) 0 0 w' v (told (pText most xs) []) ∧ Keep w w' := by
  refine (take_row (pText most) (fun wb a v w1 => Mine KB 5 (fun k => wb.heap.size ≤ k) 0 0 w1 v a) 56 [.pointer (some ⟨bm, 0, none⟩)] Try.call56 xs A n c w hs hnc hn (fun wb a v w1 h => mineV1 h)
    (fun wb a v w1 w2 U h x hU => h.ext x (fun k _ hk => by omega) (fun k hk hu => by have := hU k hu; omega)) (fun w' rb hk hR => takeText1_c most hmo bm rb rb n xs w' hR (hB.keep hk))).mono fun r w' h => ?_
  obtain ⟨h, hk⟩ := h
  cases hp : pText most xs with
  | none => rw [hp] at h; exact ⟨_, h, Mine.nil _ _ _ _ _ _, hk⟩
  | some b => obtain ⟨a, ys⟩ := b; rw [hp] at h; obtain ⟨v, wb, h1, h2, h3, _⟩ := h; exact ⟨v, h1, h2.mono (fun k _ hk' => Nat.le_trans h3.size hk'), hk⟩
-- f35 "pedigree/pack.TakeText" params [25, 3] results [25, 3, 26] -> [(ResultVar.tmp 4), (ResultVar.tmp 5), (
set_option maxHeartbeats 4000000 in
set_option maxRecDepth 100000 in
theorem TakeText_c (most : Int) (hmo : okI most) {A : Option Addr} {n c : Nat} {xs : List UInt8} (w : World) (hs : Sl KB 0 w.heap.size w A n xs) (hnc : n ≤ c) (hn : n ≤ 1000000) : Ret Try.prog 35 #[.slice A n c, .int .i64 most] w fun r w' => ∃ v, r = .tuple #[v, .int .i64 (cnt (pText most xs) n), .int .i64 (code (pText most xs))] ∧ Mine KB 5 (fun k => w.heap.size ≤ k) 0 0 w' v (told (pText most xs) []) ∧ Keep w w' := by
  refine X.enter Try.func35 rfl Try.ntmps35 rfl ?_
  refine X.seq ?_
  refine X.region ?_
  refine X.opE X.wN rfl (X.boxE rfl rfl) ?_
  rintro _ w1 ⟨rfl, hB1, hk1, hz1⟩
  refine X.opw X.wN rfl (X.assign rfl) ?_
  refine X.opw X.wN rfl (X.assign rfl) ?_
  refine X.opw X.wN rfl (X.assign rfl) ?_
  refine X.opsEnd ?_
  refine X.seq ?_
  refine X.region ?_
  refine X.opw X.wN rfl (X.move (v := .slice _ _ _) rfl) ?_
  refine X.opw X.wN rfl (X.mkFunc rfl) ?_
  refine X.opE X.wN rfl (X.callE (tText_c most hmo _ _ hB1 ((hs.keep hk1).wide (Nat.le_refl _) (by omega)) hnc hn) Try.call55 rfl rfl) ?_
  rintro _ w2 ⟨v2, rfl, hM2, hk2⟩
  have hk2' := hk2.size
  refine X.opw X.wN rfl (X.extr rfl rfl) ?_
  refine X.opw X.wN rfl (X.extr rfl rfl) ?_
  refine X.opw X.wN rfl (X.extr rfl rfl) ?_
  refine X.opw X.wN rfl (X.assign rfl) ?_
  refine X.opw X.wN rfl (X.assign (v := .int .i64 _) rfl) ?_
  refine X.opw X.wN rfl (X.assign (v := .int .i64 _) rfl) ?_
  refine X.opsEnd ?_
  refine X.ret3 (v2 := (.int .i64 _)) (v3 := (.int .i64 _)) Try.func35 Try.results35 rfl rfl rfl ?_
  exact ⟨_, rfl, Mine.mono (T := fun k => w.heap.size ≤ k) hM2 (fun k h1 h2 => by (try simp only [] at *); omega), (hk1.trans hk2)⟩
-- f39 "pedigree/pack.TakeCounted" params [25] results [42, 3, 26] -> [(ResultVar.cell 2 42), (ResultVar.tmp 3
set_option maxHeartbeats 4000000 in
set_option maxRecDepth 100000 in
theorem TakeCounted_c {A : Option Addr} {n c : Nat} {xs : List UInt8} (w : World) (hs : Sl KB 0 w.heap.size w A n xs) (hnc : n ≤ c) (hn : n ≤ 1000000) : Ret Try.prog 39 #[.slice A n c] w fun r w' => ∃ v, r = .tuple #[.agg #[v, .int .i64 (told (pCnt xs) ([], 0)).2], .int .i64 (cnt (pCnt xs) n), .int .i64 (code (pCnt xs))] ∧ Mine KV 75 (fun k => w.heap.size ≤ k) 0 0 w' v (told (pCnt xs) ([], 0)).1 ∧ Keep w w' := by
  refine X.enter Try.func39 rfl Try.ntmps39 rfl ?_
  refine X.seq ?_
  refine X.region ?_
  refine X.opE X.wN rfl (X.allocE Try.zeroValue42 rfl) ?_
  rintro _ w1 ⟨rfl, hB1, hk1, hz1⟩
  refine X.opw X.wN rfl (X.assign rfl) ?_
  refine X.opw X.wN rfl (X.assign rfl) ?_
  refine X.opsEnd ?_
  refine X.seq ?_
  refine X.region ?_
  refine X.opw X.wN rfl (X.move (v := .slice _ _ _) rfl) ?_
  refine X.opE X.wN rfl (X.callE (tCnt_c _ ((hs.keep hk1).wide (Nat.le_refl _) (by omega)) hnc hn) Try.call61 rfl rfl) ?_
  rintro _ w2 ⟨v2, rfl, hM2, hk2⟩
  have hk2' := hk2.size
  refine X.opw X.wN rfl (X.extr rfl rfl) ?_
  refine X.opw X.wN rfl (X.extr rfl rfl) ?_
  refine X.opw X.wN rfl (X.extr rfl rfl) ?_
  refine X.opE X.wN rfl (X.storeNE Try.sizeOf42 (hB1.keep hk2) rfl rfl rfl rfl (fun u hu => by simp at hu; rcases hu with rfl | rfl; exact mineV1 hM2; rfl)) ?_
  rintro _ w3 ⟨hB3, hx3, hz3⟩
  refine X.opw X.wN rfl (X.assign (v := .int .i64 _) rfl) ?_
  refine X.opw X.wN rfl (X.assign (v := .int .i64 _) rfl) ?_
  refine X.opsEnd ?_
  refine X.ret_unw (X.unwR3 Try.func39 Try.results39 (X.ResOk.cell rfl (X.lvN Try.isAgg42 Try.sizeOf42 hB3 rfl)) (show X.ResOk _ _ _ (.tmp 3) _ from rfl) (show X.ResOk _ _ _ (.tmp 4) _ from rfl) ?_)
  exact ⟨_, rfl, Mine.mono (T := fun k => w.heap.size ≤ k) (hM2.ext hx3 (by intros; (try simp only []); omega) (by intros; (try simp only []); omega)) (fun k h1 h2 => by (try simp only [] at *); omega), ((hk1.trans hk2).step hx3 (by intros; (try simp only [] at *); omega))⟩
end Go.Proofs.Ytaclpphhidlgpaa
