/- Texts that the proof of CacheRuns stands on, part 13. -/
import Derived.Test.YtjjhddjllpihaaaProg
import Derived.Test.YtjjhddjllpihaaaBunCacheRuns12

namespace Go.Proofs.Ytjjhddjllpihaaa
open Go Go.Proofs.Ytjjhddjllpihaaa.X
set_option linter.unusedVariables false
set_option linter.unusedSimpArgs false
theorem pk_step {p q : List PKEY} {i : Nat} {x y : PKEY} (h1 : p[i]? = some x) (h2 : q[i]? = some y) (ht : p.take i = q.take i) (h : x = y) : p.take (i + 1) = q.take (i + 1) := by rw [take_at h1, take_at h2, ht, h]
/-- What stays of a row whose first becomes k. -/
theorem fresh_take {α : Type} [DecidableEq α] (k : α) : ∀ (xs : List α) (r : Nat), xs.Nodup → ((xs.take (r + 1)).filter fun x => decide (x ≠ k)).take r = (xs.filter fun x => decide (x ≠ k)).take r
  | [], r, _ => by simp
  | x :: xs, 0, h => by simp
  | x :: xs, r + 1, h => by
    obtain ⟨h1, h2⟩ := List.nodup_cons.1 h
    have ih := fresh_take k xs r h2
    rw [List.take_succ_cons]
    by_cases e : x = k
    · subst e
      rw [List.filter_cons, if_neg (by simp), List.filter_cons, if_neg (by simp)]
      have g : ∀ l : List α, (∀ y ∈ l, y ≠ x) → l.filter (fun y => decide (y ≠ x)) = l := fun l hl => List.filter_eq_self.2 fun y hy => by simpa using hl y hy
      have hx : ∀ y ∈ xs, y ≠ x := fun y hy e => h1 (e ▸ hy)
      rw [g _ hx, g _ (fun y hy => hx y (List.mem_of_mem_take hy)), List.take_take, Nat.min_self]
    · rw [List.filter_cons, if_pos (by simpa using e), List.filter_cons, if_pos (by simpa using e), List.take_succ_cons, List.take_succ_cons, ih]
theorem filter_length_take {α : Type} [DecidableEq α] (k : α) (xs : List α) (h : xs.Nodup) : xs.length ≤ (xs.filter fun x => decide (x ≠ k)).length + 1 := by
  induction xs with
  | nil => simp
  | cons x xs ih =>
    obtain ⟨h1, h2⟩ := List.nodup_cons.1 h
    have i := ih h2
    by_cases e : x = k
    · subst e
      have : xs.filter (fun y => decide (y ≠ x)) = xs := List.filter_eq_self.2 fun y hy => decide_eq_true (fun e => h1 (e ▸ hy))
      rw [List.filter_cons, if_neg (by simp), this]
      simp
    · rw [List.filter_cons, if_pos (by simpa using e)]
      simp only [List.length_cons]; omega
/-- The keys behind a Put. -/
theorem put_keys {s : Ca} {k : PKEY} {p : List CD} {xs : List PKEY} {r : Nat} (hr : s.room = (r : Int)) (hn : xs.Nodup) (hl : s.L.map (·.1) = xs.take r) : (s.put k p).L.map (·.1) = (k :: xs.filter fun x => decide (x ≠ k)).take r ∧ (s.put k p).room = (r : Int) ∧ (s.put k p).g ≤ s.g + 1 ∧ s.g ≤ (s.put k p).g ∧ (s.put k p).h = s.h ∧ (s.put k p).m = s.m := by
  have hf : (s.L.filter fun q => decide (q.1 ≠ k)).map (·.1) = (xs.take r).filter fun x => decide (x ≠ k) := by rw [map_filter_ne, hl]
  have hfl : (s.L.filter fun q => decide (q.1 ≠ k)).length = ((xs.take r).filter fun x => decide (x ≠ k)).length := by rw [← hf, List.length_map]
  cases r with
  | zero =>
    rw [Ca.put, if_pos (show s.room = 0 by omega)]
    exact ⟨by rw [hl]; simp, hr, by omega, by omega, rfl, rfl⟩
  | succ r =>
    have hft := fresh_take k xs r hn
    rw [Ca.put, if_neg (by omega)]
    have hle : ((xs.take (r + 1)).filter fun x => decide (x ≠ k)).length ≤ r + 1 := Nat.le_trans (List.length_filter_le _ _) (by rw [List.length_take]; omega)
    split
    · rename_i h
      rw [List.length_cons, hfl] at h
      refine ⟨?_, hr, by dsimp only; omega, by dsimp only; omega, rfl, rfl⟩
      dsimp only
      rw [List.map_dropLast, List.map_cons, hf, List.take_succ_cons, ← hft]
      have : ((xs.take (r + 1)).filter fun x => decide (x ≠ k)).length = r + 1 := by omega
      rw [List.dropLast_eq_take, List.length_cons, this, Nat.add_sub_cancel, List.take_succ_cons]
    · rename_i h
      rw [List.length_cons, hfl] at h
      refine ⟨?_, hr, by dsimp only; omega, by dsimp only; omega, rfl, rfl⟩
      dsimp only
      rw [List.map_cons, hf, List.take_succ_cons, ← hft, List.take_of_length_le (l := (xs.take (r + 1)).filter fun x => decide (x ≠ k)) (by omega)]
-- f12 "pedigree/pedigreeref08.SameKeys" params [28, 28] results [4] -> [(ResultVar.tmp 4)] nfree 0 ntmps 26 n
set_option maxHeartbeats 4000000 in
set_option maxRecDepth 100000 in
theorem SameKeys_c {lo1 hi1 lo2 hi2 : Nat} {A1 A2 : Option Addr} {n1 n2 c1 c2 : Nat} {xs ys : List PKEY} (w : World) (hs1 : Sl KPk lo1 hi1 w A1 n1 xs) (hs2 : Sl KPk lo2 hi2 w A2 n2 ys) : Ret Try.prog 12 #[.slice A1 n1 c1, .slice A2 n2 c2] w fun r w' => r = .bool (decide (xs = ys)) ∧ Keep w w' := by
  have hl1 := hs1.len
  have hl2 := hs2.len
  have hbd := hs1.bound
  refine X.enter Try.func12 rfl Try.ntmps12 rfl ?_
  refine X.seq ?_
  refine X.region ?_
  refine X.opw X.wN rfl (X.assign rfl) ?_
  refine X.opsEnd ?_
  refine X.seq ?_
  refine X.seq ?_
  refine X.region ?_
  refine X.opw X.wN rfl (X.move (v := .slice _ _ _) rfl) ?_
  refine X.opw X.wN rfl (X.lenSl Try.underlying28 rfl) ?_
  refine X.opw X.wN rfl (X.move (v := .slice _ _ _) rfl) ?_
  refine X.opw X.wN rfl (X.lenSl Try.underlying28 rfl) ?_
  refine X.opP X.wN rfl rfl (X.neI rfl rfl) (fun h10 => ?_) (fun h10 => ?_)
  · refine X.opsEnd ?_
    refine X.condT rfl ?_
    refine X.seq ?_
    refine X.region ?_
    refine X.opw X.wN rfl (X.assign rfl) ?_
    refine X.opsEnd ?_
    refine X.ret1 (v := (.bool _)) Try.func12 Try.results12 rfl ?_
    exact ⟨by congr 1; exact (decide_eq_false (fun e => h10 (by have := congrArg List.length e; omega))).symm, (Keep.refl _)⟩
  · refine X.opsEnd ?_
    refine X.condF rfl ?_
    refine X.skip ?_
    refine X.seq ?_
    refine X.seq ?_
    refine X.region ?_
    refine X.opw X.wN rfl (X.assign rfl) ?_
    refine X.opsEnd ?_
    refine X.block ?_
    -- LOOP live: 0=a, 1=b, 5=i*
    refine X.loopL (σ := Nat) (fun s => [(0, .slice A1 n1 c1), (1, .slice A2 n2 c2), (5, .int .i64 (s : Int))]) (fun s w' => s ≤ n1 ∧ s ≤ n2 ∧ xs.take s = ys.take s ∧ Keep w w') (fun s => n1 - s) 0 ⟨rfl, rfl, rfl, trivial⟩ ⟨Nat.zero_le _, Nat.zero_le _, rfl, (Keep.refl _)⟩ ?_
    rintro i b w1 ⟨hi1, hi2, ht, hk⟩ hback
    have hk' := hk.size
    refine X.seq ?_
    refine X.seq ?_
    refine X.region ?_
    refine X.opw X.wN rfl (X.move (v := .int .i64 _) rfl) ?_
    refine X.opw X.wN rfl (X.move (v := .slice _ _ _) rfl) ?_
    refine X.opw X.wN rfl (X.lenSl Try.underlying28 rfl) ?_
    refine X.opP X.wN rfl rfl (X.lss rfl rfl) (fun h14 => ?_) (fun h14 => ?_)
    · obtain ⟨x1, hx1⟩ := getL i hl1 (by omega)
      obtain ⟨x2, hx2⟩ := getL i hl2 (by omega)
      refine X.opsEnd ?_
      refine X.condT rfl ?_
      refine X.skip ?_
      refine X.seq ?_
      refine X.block ?_
      refine X.seq ?_
      refine X.regionD (fun _ => False) 9 (by kernel_rfl) (by kernel_rfl) (fun w1 hk1 hz1 => ?_)
      refine X.dTake 0 rfl (by kernel_rfl) (by kernel_rfl) (by kernel_rfl) (X.dwN rfl) (fun w' hk' => X.move (v := .slice _ _ _) rfl) ?_
      refine X.dTake 1 rfl (by kernel_rfl) (by kernel_rfl) (by kernel_rfl) (X.dwN rfl) (fun w' hk' => X.move (v := .int .i64 _) rfl) ?_
      refine X.dTake 2 rfl (by kernel_rfl) (by kernel_rfl) (by kernel_rfl) (X.dwN rfl) (fun w' hk' => X.idxS (hs1.keep ((hk.trans hk1).trans hk')) Try.underlying28 Try.sizeOf30 rfl rfl ⟨by omega, by omega⟩) ?_
      refine X.dTake 3 rfl (by kernel_rfl) (by kernel_rfl) (by kernel_rfl) (X.dwN rfl) (fun w' hk' => X.loadSN Try.isAgg30 Try.sizeOf30 (hs1.keep ((hk.trans hk1).trans hk')) hx1 rfl (fun _ h => h.1) rfl) ?_
      refine X.dTake 4 rfl (by kernel_rfl) (by kernel_rfl) (by kernel_rfl) (X.dwN rfl) (fun w' hk' => X.move (v := .slice _ _ _) rfl) ?_
      refine X.dTake 5 rfl (by kernel_rfl) (by kernel_rfl) (by kernel_rfl) (X.dwN rfl) (fun w' hk' => X.move (v := .int .i64 _) rfl) ?_
      refine X.dTake 6 rfl (by kernel_rfl) (by kernel_rfl) (by kernel_rfl) (X.dwN rfl) (fun w' hk' => X.idxS (hs2.keep ((hk.trans hk1).trans hk')) Try.underlying28 Try.sizeOf30 rfl rfl ⟨by omega, by omega⟩) ?_
      refine X.dTake 7 rfl (by kernel_rfl) (by kernel_rfl) (by kernel_rfl) (X.dwN rfl) (fun w' hk' => X.loadSN Try.isAgg30 Try.sizeOf30 (hs2.keep ((hk.trans hk1).trans hk')) hx2 rfl (fun _ h => h.1) rfl) ?_
      refine X.dTake 8 rfl (by kernel_rfl) (by kernel_rfl) (by kernel_rfl) (X.dwN rfl) (fun w' hk' => X.neA eqPk_guard rfl rfl (eqPk x1 x2 _)) ?_
      refine X.dEnd (by kernel_rfl) ?_
      refine X.condB rfl (fun hc => ?_) (fun hc => ?_)
      · refine X.seq ?_
        refine X.region ?_
        refine X.opw X.wN rfl (X.assign rfl) ?_
        refine X.opsEnd ?_
        refine X.ret1 (v := (.bool _)) Try.func12 Try.results12 rfl ?_
        refine ⟨by congr 1; refine (decide_eq_false (fun e => ?_)).symm; rw [e, hx2] at hx1; cases hx1; simp at hc, (hk.trans hk1)⟩
      · refine X.skip ?_
        refine X.inBlock ?_
        refine X.region ?_
        refine X.opw X.wN rfl (X.move (v := .int .i64 _) rfl) ?_
        refine X.opw X.wN rfl (X.add rfl rfl (X.w_i64 (by omega))) ?_
        refine X.opw X.wN rfl (X.assign (v := .int .i64 _) rfl) ?_
        refine X.opsEnd ?_
        refine hback (i + 1) _ _ ⟨rfl, rfl, rfl, trivial⟩ ⟨by omega, by omega, pk_step hx1 hx2 ht (by simpa using hc), (hk.trans hk1)⟩ (by omega)
    · refine X.opsEnd ?_
      refine X.condF rfl ?_
      refine X.exit rfl ?_
      refine X.seq ?_
      refine X.region ?_
      refine X.opw X.wN rfl (X.assign rfl) ?_
      refine X.opsEnd ?_
      refine X.ret1 (v := (.bool _)) Try.func12 Try.results12 rfl ?_
      refine ⟨by congr 1; refine (decide_eq_true ?_).symm; rw [List.take_of_length_le (by omega), List.take_of_length_le (by omega)] at ht; exact ht, hk⟩
end Go.Proofs.Ytjjhddjllpihaaa

namespace Go.Proofs.Ytjjhddjllpihaaa
open Go Go.Proofs.Ytjjhddjllpihaaa.X
set_option linter.unusedVariables false
set_option linter.unusedSimpArgs false
section
variable {P : Program} {ρ : Operand → Value} {w : World} {dst : Option Tmp} {ty : TypeId} {pos : String} {aft : Array Edge} {g : Option (Nat × Bool)}
theorem minN {s x : Operand} {ts : Array TypeId} {k k' : IntKind} {a b : Nat} (hs : ρ s = .int k (a : Int)) (hx : ρ x = .int k' (b : Int)) : Does P ⟨dst, .call ⟨.builtin .min, #[s, x], ts⟩, ty, pos, aft, g⟩ ρ w (.int k ((min a b : Nat) : Int)) w := by
  have h : Does P ⟨dst, .call ⟨.builtin .min, #[s, x], ts⟩, ty, pos, aft, g⟩ ρ w (.int k (if (b : Int) < (a : Int) then (b : Int) else (a : Int))) w :=
    does_run rfl (by simp only [execOp, resolve, invoke, builtin, List.map_toArray, List.map_cons, List.map_nil, hs, hx]; simp [Builtin.min_, Builtin.min2])
  rwa [show (if (b : Int) < (a : Int) then (b : Int) else (a : Int)) = ((min a b : Nat) : Int) by split <;> omega] at h
end
theorem repsPk1 {w : World} (x : PKEY) : RepsV KPk w [x] [encPK x] := repsPk x
theorem fr_step {k x : PKEY} {xs : List PKEY} {j : Nat} (hx : xs[j]? = some x) : (xs.take (j + 1)).filter (fun y => decide (y ≠ k)) = (xs.take j).filter (fun y => decide (y ≠ k)) ++ if x = k then [] else [x] := by
  rw [take_at hx, List.filter_append]
  by_cases e : x = k
  · rw [if_pos e, e]; simp
  · rw [if_neg e]; simp [e]
theorem take_min {α : Type} (r : Nat) (xs : List α) : xs.take r = xs.take (min r xs.length) := by
  rcases Nat.le_total r xs.length with h | h
  · rw [Nat.min_eq_left h]
  · rw [Nat.min_eq_right h, List.take_of_length_le h, List.take_of_length_le (Nat.le_refl _)]
theorem fr_nodup {k : PKEY} {xs : List PKEY} (h : xs.Nodup) : (k :: xs.filter fun y => decide (y ≠ k)).Nodup := by
  rw [List.nodup_cons]; exact ⟨fun h => by have := (List.mem_filter.1 h).2; simp at this, h.filter _⟩
-- f3 "pedigree/pedigreelaw08.CacheFresh" params [5, 22] results [4] -> [(ResultVar.tmp 4)] nfree 0 ntmps 86 n
set_option maxHeartbeats 4000000 in
set_option maxRecDepth 100000 in
theorem CacheFresh_c (w : World) (room : UInt8) (g1 : True) (A : Option Addr) (n c : Nat) (ks : List UInt8) (hc : n ≤ c) (hs : Sl KB 0 w.heap.size w A n ks) : Ret Try.prog 3 #[.int .u8 (room.toNat : Int), .slice A n c] w fun r w' => r = .bool true ∧ Keep w w' := by
  have hlk := hs.len
  have hbd := hs.bound
  have hr8 := room.toNat_lt
  obtain ⟨r, hr⟩ : ∃ r, r = room.toNat % 8 := ⟨_, rfl⟩
  refine X.enter Try.func3 rfl Try.ntmps3 rfl ?_
  refine X.seq ?_
  refine X.region ?_
  refine X.opw X.wN rfl (X.assign rfl) ?_
  refine X.opsEnd ?_
  refine X.seq ?_
  refine X.seq ?_
  refine X.region ?_
  refine X.opE X.wN rfl (X.callE (awake_c _) Try.call7 rfl rfl) ?_
  rintro _ w1 ⟨rfl, hk1⟩
  have hk1' := hk1.size
  refine X.opw X.wN rfl (X.not_ rfl) ?_
  refine X.opsEnd ?_
  refine X.condF rfl ?_
  refine X.skip ?_
  refine X.seq ?_
  refine X.region ?_
  refine X.opw X.wN rfl (X.move (v := .int .u8 _) rfl) ?_
  refine X.opw X.wN rfl (X.cvI Try.underlying5 Try.underlying3 rfl (X.w_i64 (by omega))) ?_
  refine X.opw X.wN rfl (X.rem (c := (r : Int)) rfl rfl (by decide) (by rw [hr]; rfl)) ?_
  refine X.opw X.wN rfl (X.assign (v := .int .i64 _) rfl) ?_
  refine X.opsEnd ?_
  refine X.seq ?_
  refine X.region ?_
  refine X.opw X.wN rfl (X.move (v := .int .i64 _) rfl) ?_
  refine X.opE X.wN rfl (X.callE (New_e _ (by omega) _) Try.call8 rfl rfl) ?_
  rintro _ w2 ⟨bc, rfl, hC2, hk2⟩
  have hk2' := hk2.size
  refine X.opw X.wN rfl (X.move rfl) ?_
  refine X.opw X.wN rfl (X.extr rfl rfl) ?_
  refine X.opw X.wN rfl (X.extr rfl rfl) ?_
  refine X.opw X.wN rfl (X.assign rfl) ?_
  refine X.opw X.wN rfl (X.assign (v := .int .i64 _) rfl) ?_
  refine X.opsEnd ?_
  refine X.seq ?_
  refine X.seq ?_
  refine X.region ?_
  refine X.opw X.wN rfl (X.move (v := .int .i64 _) rfl) ?_
  refine X.opw X.wN rfl (X.neI rfl rfl) ?_
  refine X.opw X.wN rfl (X.move (v := .bool false) rfl) ?_
  refine X.opw (X.wG rfl rfl rfl) rfl (X.move rfl) ?_
  refine X.opw (X.wG rfl rfl rfl) rfl (X.eqPtrN (A := some _) Try.underlying24 rfl rfl) ?_
  refine X.opw X.wN rfl (X.pickF (v := .bool false) rfl rfl) ?_
  refine X.opsEnd ?_
  refine X.condF rfl ?_
  refine X.skip ?_
  refine X.seq ?_
  refine X.region ?_
  refine X.opw X.wN rfl (X.assign rfl) ?_
  refine X.opsEnd ?_
  refine X.seq ?_
  refine X.seq ?_
  refine X.region ?_
  refine X.opw X.wN rfl (X.assign rfl) ?_
  refine X.opsEnd ?_
  refine X.block ?_
  -- LOOP live: 1=keys, 5=n, 6=c, 8=fresh*, 9=i*
  refine X.loopL (σ := Nat × Option Addr × Nat × Nat) (fun s => [(1, .slice A n c), (5, .int .i64 (r : Int)), (6, ptrV bc), (8, .slice s.2.1 s.2.2.1 s.2.2.2), (9, .int .i64 (s.1 : Int))]) (fun s w' => s.1 ≤ n ∧ s.1 ≤ 60 ∧ ∃ xs cs TT a b, CaIn TT w' bc cs ∧ cs.room = (r : Int) ∧ cs.L.map (·.1) = xs.take r ∧ 0 ≤ cs.g ∧ cs.g ≤ s.1 ∧ xs.Nodup ∧ xs.length ≤ s.1 ∧ Mine KPk 30 (fun k => a ≤ k ∧ k < b) 0 0 w' (.slice s.2.1 s.2.2.1 s.2.2.2) xs ∧ (∀ k, TT k → w.heap.size ≤ k ∧ ¬ (a ≤ k ∧ k < b)) ∧ w.heap.size ≤ a ∧ b ≤ w'.heap.size ∧ Keep w w') (fun s => n - s.1) (0, none, 0, 0) ⟨rfl, rfl, rfl, rfl, rfl, trivial⟩ ⟨Nat.zero_le _, Nat.zero_le _, [], _, _, w2.heap.size, w2.heap.size, hC2, rfl, by simp, by simp, by simp, by simp, by simp, Mine.nil _ _ _ _ _ _, fun k h => ⟨by omega, by omega⟩, by omega, by omega, (hk1.trans hk2)⟩ ?_
  rintro ⟨i, A8, n8, c8⟩ b0 wl ⟨hi1, hi2, xs, cs, TT, a, b, hC, hroom, hL, hg0, hg1, hnd, hxl, hM, hTT, ha, hb, hk⟩ hback
  dsimp only
  simp only at hi1 hi2 hg1 hxl hM
  have hk' := hk.size
  have hTl := hC.lt
  have hn8 := hM.len
  have hc8 : n8 ≤ c8 := by obtain ⟨_, _, e, h, _⟩ := hM.slice; injection e with _ e2 e3; omega
  have hLn : cs.L.length ≤ 10000 := by have := congrArg List.length hL; rw [List.length_map, List.length_take] at this; omega
  refine X.seq ?_
  refine X.seq ?_
  refine X.region ?_
  refine X.opw X.wN rfl (X.move (v := .int .i64 _) rfl) ?_
  refine X.opw X.wN rfl (X.move (v := .slice _ _ _) rfl) ?_
  refine X.opw X.wN rfl (X.lenSl Try.underlying22 rfl) ?_
  refine X.opP X.wN rfl rfl (X.lss rfl rfl) (fun h32 => ?_) (fun h32 => ?_)
  · refine X.opw X.wN rfl (X.move (v := .bool true) rfl) ?_
    refine X.opw (X.wG rfl rfl rfl) rfl (X.move (v := .int .i64 _) rfl) ?_
    refine X.opP (X.wG rfl rfl rfl) rfl rfl (X.lss rfl rfl) (fun h35 => ?_) (fun h35 => ?_)
    · obtain ⟨x0, hx0⟩ := getL (l := ks) i hlk (by omega)
      have hx8 := x0.toNat_lt
      refine X.opw X.wN rfl (X.pickT (v := .bool true) rfl rfl) ?_
      refine X.opsEnd ?_
      refine X.condT rfl ?_
      refine X.skip ?_
      refine X.seq ?_
      refine X.block ?_
      refine X.seq ?_
      refine X.region ?_
      refine X.opw X.wN rfl (X.move (v := .slice _ _ _) rfl) ?_
      refine X.opw X.wN rfl (X.move (v := .int .i64 _) rfl) ?_
      refine X.opw X.wN rfl (X.idxS (hs.keep hk) Try.underlying22 Try.sizeOf5 rfl rfl ⟨by omega, by omega⟩) ?_
      refine X.opw X.wN rfl (X.loadS Try.isAgg5 (hs.keep hk) hx0 rfl (fun _ h => by rw [h.1]; rfl)) ?_
      refine X.opw X.wN rfl (X.cvI Try.underlying5 Try.underlying3 rfl (X.w_i64 (by omega))) ?_
      refine X.opw X.wN rfl (X.rem (c := ((x0.toNat % 12 : Nat) : Int)) rfl rfl (by decide) rfl) ?_
      refine X.opE X.wN rfl (X.callE (key_c _ _) Try.call9 rfl rfl) ?_
      rintro _ w3 ⟨rfl, hk3⟩
      have hk3' := hk3.size
      refine X.opE X.wN rfl (X.allocE Try.zeroValue30 rfl) ?_
      rintro _ w4 ⟨rfl, hB4, hk4, hz4⟩
      refine X.opE X.wN rfl (X.storeNE Try.sizeOf30 hB4 rfl rfl rfl rfl (fun u hu => by simp at hu; rcases hu with rfl | rfl <;> rfl)) ?_
      rintro _ w5 ⟨hB5, hx5, hz5⟩
      refine X.opsEnd ?_
      refine X.seq ?_
      refine X.regionD (TT) 9 (by kernel_rfl) (by kernel_rfl) (fun w6 hk6 hz6 => ?_)
      refine X.dTake 0 rfl (by kernel_rfl) (by kernel_rfl) (by kernel_rfl) (X.dwN rfl) (fun w' hk' => X.move rfl) ?_
      refine X.dTake 1 rfl (by kernel_rfl) (by kernel_rfl) (by kernel_rfl) (X.dwN rfl) (fun w' hk' => X.loadNB Try.isAgg30 Try.sizeOf30 ((hB5.keep hk6).ext hk' (by first | (intros; (try simp only []); omega) | exact fun k h e => by (have := hTl k h; have e2 : k = _ := e; omega) | exact fun h => by (have := hTl _ h; omega) | exact fun k h1 h2 => (hTT k h2).2 h1 | exact fun k _ h1 h2 => by (have := (hTT k h2).1; omega))) rfl rfl rfl) ?_
      refine X.dTake 2 rfl (by kernel_rfl) (by kernel_rfl) (by kernel_rfl) (X.dwN rfl) (fun w' hk' => X.move (v := .slice _ _ _) rfl) ?_
      refine X.dTake 3 rfl (by kernel_rfl) (by kernel_rfl) (by kernel_rfl) (X.dwN rfl) (fun w' hk' => X.move (v := .int .i64 _) rfl) ?_
      refine X.dTake 4 rfl (by kernel_rfl) (by kernel_rfl) (by kernel_rfl) (X.dwN rfl) (fun w' hk' => X.idxS (hs.keep (((((hk.trans hk3).trans hk4).step hx5 (by first | (intros; (try simp only [] at *); omega) | exact fun k h => (hTT k h).1)).trans hk6).step hk' (by first | (intros; (try simp only [] at *); omega) | exact fun k h => (hTT k h).1))) Try.underlying22 Try.sizeOf5 rfl rfl ⟨by omega, by omega⟩) ?_
      refine X.dTake 5 rfl (by kernel_rfl) (by kernel_rfl) (by kernel_rfl) (X.dwN rfl) (fun w' hk' => X.loadS Try.isAgg5 (hs.keep (((((hk.trans hk3).trans hk4).step hx5 (by first | (intros; (try simp only [] at *); omega) | exact fun k h => (hTT k h).1)).trans hk6).step hk' (by first | (intros; (try simp only [] at *); omega) | exact fun k h => (hTT k h).1))) hx0 rfl (fun _ h => by rw [h.1]; rfl)) ?_
      refine X.dTake 6 rfl (by kernel_rfl) (by kernel_rfl) (by kernel_rfl) (X.dwN rfl) (fun w' hk' => X.cvI Try.underlying5 Try.underlying2 rfl (X.w_i64 (by omega))) ?_
      refine X.dE (i := 7) (by kernel_rfl) rfl (X.dwN rfl) (X.callE (page_c _ ⟨by omega, by omega⟩ _) Try.call11 rfl rfl) (by rintro _ w7 ⟨A7, c7, rfl, hc7, hs7, hk7⟩ _; exact hk7.mono (fun _ _ h => h.elim)) ?_
      rintro _ w7 ⟨A7, c7, rfl, hc7, hs7, hk7⟩
      have hk7' := hk7.size
      refine X.dE (i := 8) (by kernel_rfl) rfl (X.dwN rfl) (X.callE (Put_c (keyP ((x0.toNat % 12 : Nat) : Int)) _ (hC.keep ((((hk3.trans hk4).step hx5 (by first | (intros; (try simp only [] at *); omega) | exact fun k h => (hTT k h).1)).trans hk6).trans hk7)) hs7 (by omega) (pageP_ok _) hLn (by omega) (by omega)) Try.call10 rfl rfl) (by rintro _ w8 ⟨rfl, hC8, hx8⟩ _; exact hx8) ?_
      rintro _ w8 ⟨rfl, hC8, hx8⟩
      have hx8' := hx8.size
      refine X.dEnd (by kernel_rfl) ?_
      refine X.seq ?_
      refine X.region ?_
      refine X.opw X.wN rfl (X.loadNB Try.isAgg30 Try.sizeOf30 ((hB5.keep (hk6.trans hk7)).ext hx8 (by first | (intros; (try simp only []); omega) | exact fun k h e => by (have := hTl k h; have e2 : k = _ := e; omega) | exact fun h => by (have := hTl _ h; omega) | exact fun k h1 h2 => (hTT k h2).2 h1 | exact fun k _ h1 h2 => by (have := (hTT k h2).1; omega))) rfl rfl rfl) ?_
      refine X.opE X.wN rfl (X.litKF KPk_flat (K := KPk) (xs := [Operand.tmp 55]) (vs := [encPK (keyP ((x0.toNat % 12 : Nat) : Int))]) (ys := [(keyP ((x0.toNat % 12 : Nat) : Int))]) Try.underlying28 Try.sizeOf30 Try.zeroValue30 rfl rfl rfl rfl rfl (repsPk1 _)) ?_
      rintro _ w9 ⟨rfl, hs9, hB9, hk9, hz9⟩
      refine X.opw X.wN rfl (X.assign rfl) ?_
      refine X.opsEnd ?_
      refine X.seq ?_
      refine X.seq ?_
      refine X.region ?_
      refine X.opw X.wN rfl (X.assign rfl) ?_
      refine X.opsEnd ?_
      refine X.block ?_
      -- LOOP live: 1=keys, 5=n, 6=c, 8=fresh, 9=i, 10=k, 11=l*, 12=a*
      have hM8 := ((hM.keep ((((hk3.trans hk4).step hx5 (by first | (intros; (try simp only [] at *); omega) | exact fun k h => (hTT k h).1)).trans hk6).trans hk7)).ext hx8 (by first | (intros; (try simp only []); omega) | exact fun k h e => by (have := hTl k h; have e2 : k = _ := e; omega) | exact fun h => by (have := hTl _ h; omega) | exact fun k h1 h2 => (hTT k h2).2 h1 | exact fun k _ h1 h2 => by (have := (hTT k h2).1; omega)) (by first | (intros; (try simp only []); omega) | exact fun k h e => by (have := hTl k h; have e2 : k = _ := e; omega) | exact fun h => by (have := hTl _ h; omega) | exact fun k h1 h2 => (hTT k h2).2 h1 | exact fun k _ h1 h2 => by (have := (hTT k h2).1; omega)))
      refine X.loopL (σ := Nat × Value) (fun s => [(1, .slice A n c), (5, .int .i64 (r : Int)), (6, ptrV bc), (8, .slice A8 n8 c8), (9, .int .i64 (i : Int)), (10, .pointer (some ⟨w3.heap.size, 0, none⟩)), (11, s.2), (12, .int .i64 (s.1 : Int))]) (fun s w' => s.1 ≤ n8 ∧ Mine KPk 30 (fun q => w8.heap.size ≤ q ∧ q < w'.heap.size) 0 0 w' s.2 ((keyP ((x0.toNat % 12 : Nat) : Int)) :: (xs.take s.1).filter fun y => decide (y ≠ (keyP ((x0.toNat % 12 : Nat) : Int)))) ∧ Keep w8 w') (fun s => n8 - s.1) (0, _) ⟨rfl, rfl, rfl, rfl, rfl, rfl, rfl, rfl, trivial⟩ ⟨Nat.zero_le _, (show Mine KPk 30 (fun q => w8.heap.size ≤ q) 0 0 w9 _ [(keyP ((x0.toNat % 12 : Nat) : Int))] from (Mine.litV (vs := [encPK (keyP ((x0.toNat % 12 : Nat) : Int))]) (w0 := w8) KPk_flat hB9 (repsPk1 _) rfl (by first | omega | simp) (by first | (intros; (try simp only [] at *); omega) | exact fun k h => (hTT k h).1))).mono (fun k hk h => ⟨h, hk⟩), hk9⟩ ?_
      rintro ⟨j, v⟩ b1 wm ⟨hj, hM2, hkk⟩ hback2
      dsimp only
      simp only at hj hM2
      have hkk' := hkk.size
      have hfl : ((xs.take j).filter fun y => decide (y ≠ (keyP ((x0.toNat % 12 : Nat) : Int)))).length ≤ 60 := by have := List.length_filter_le (fun y : PKEY => decide (y ≠ (keyP ((x0.toNat % 12 : Nat) : Int)))) (xs.take j); rw [List.length_take] at this; omega
      refine X.seq ?_
      refine X.seq ?_
      refine X.region ?_
      refine X.opw X.wN rfl (X.move (v := .int .i64 _) rfl) ?_
      refine X.opw X.wN rfl (X.move rfl) ?_
      refine X.opw X.wN rfl (X.lenSl Try.underlying28 rfl) ?_
      refine X.opP X.wN rfl rfl (X.lss rfl rfl) (fun h60 => ?_) (fun h60 => ?_)
      · obtain ⟨x, hx⟩ := getL (l := xs) j hn8 (by omega)
        refine X.opsEnd ?_
        refine X.condT rfl ?_
        refine X.skip ?_
        refine X.seq ?_
        refine X.block ?_
        refine X.seq ?_
        refine X.regionD (fun _ => False) 6 (by kernel_rfl) (by kernel_rfl) (fun w10 hk10 hz10 => ?_)
        refine X.dTake 0 rfl (by kernel_rfl) (by kernel_rfl) (by kernel_rfl) (X.dwN rfl) (fun w' hk' => X.move rfl) ?_
        refine X.dTake 1 rfl (by kernel_rfl) (by kernel_rfl) (by kernel_rfl) (X.dwN rfl) (fun w' hk' => X.move (v := .int .i64 _) rfl) ?_
        refine X.dTake 2 rfl (by kernel_rfl) (by kernel_rfl) (by kernel_rfl) (X.dwN rfl) (fun w' hk' => X.idxS ((mine_0 KPk_flat hM8 0 (fun _ _ => Nat.zero_le _)).keep ((hkk.trans hk10).trans hk')) Try.underlying28 Try.sizeOf30 rfl rfl ⟨by omega, by omega⟩) ?_
        refine X.dTake 3 rfl (by kernel_rfl) (by kernel_rfl) (by kernel_rfl) (X.dwN rfl) (fun w' hk' => X.loadSN Try.isAgg30 Try.sizeOf30 ((mine_0 KPk_flat hM8 0 (fun _ _ => Nat.zero_le _)).keep ((hkk.trans hk10).trans hk')) hx rfl (fun _ h => h.1) rfl) ?_
        refine X.dTake 4 rfl (by kernel_rfl) (by kernel_rfl) (by kernel_rfl) (X.dwN rfl) (fun w' hk' => X.loadNB Try.isAgg30 Try.sizeOf30 (((hB5.keep (hk6.trans hk7)).ext hx8 (by first | (intros; (try simp only []); omega) | exact fun k h e => by (have := hTl k h; have e2 : k = _ := e; omega) | exact fun h => by (have := hTl _ h; omega) | exact fun k h1 h2 => (hTT k h2).2 h1 | exact fun k _ h1 h2 => by (have := (hTT k h2).1; omega))).keep ((hkk.trans hk10).trans hk')) rfl rfl rfl) ?_
        refine X.dTake 5 rfl (by kernel_rfl) (by kernel_rfl) (by kernel_rfl) (X.dwN rfl) (fun w' hk' => X.neA eqPk_guard rfl rfl (eqPk x (keyP ((x0.toNat % 12 : Nat) : Int)) _)) ?_
        refine X.dEnd (by kernel_rfl) ?_
        refine X.condB rfl (fun hc => ?_) (fun hc => ?_)
        · refine X.region ?_
          refine X.opw X.wN rfl (X.move rfl) ?_
          refine X.opw X.wN rfl (X.move rfl) ?_
          refine X.opw X.wN rfl (X.move (v := .int .i64 _) rfl) ?_
          refine X.opw X.wN rfl (X.idxS ((mine_0 KPk_flat hM8 0 (fun _ _ => Nat.zero_le _)).keep (hkk.trans hk10)) Try.underlying28 Try.sizeOf30 rfl rfl ⟨by omega, by omega⟩) ?_
          refine X.opw X.wN rfl (X.loadSN Try.isAgg30 Try.sizeOf30 ((mine_0 KPk_flat hM8 0 (fun _ _ => Nat.zero_le _)).keep (hkk.trans hk10)) hx rfl (fun _ h => h.1) rfl) ?_
          refine X.opE X.wN rfl (X.litKF KPk_flat (K := KPk) (xs := [Operand.tmp 73]) (vs := [encPK x]) (ys := [x]) Try.underlying28 Try.sizeOf30 Try.zeroValue30 rfl rfl rfl rfl rfl (repsPk1 _)) ?_
          rintro _ w11 ⟨rfl, hs11, hB11, hk11, hz11⟩
          refine X.opE X.wN rfl (X.appE (K := KPk) (S := fun q => w8.heap.size ≤ q) KPk_flat Try.underlying28 EPk rfl rfl ((hM2.mono (T := fun q => w8.heap.size ≤ q) (fun q _ h => h.1)).keep (hk10.trans hk11)) hs11 (by (try simp only [List.length_append, List.length_cons, List.length_nil, List.length_take, List.length_drop, List.length_map, List.length_range]); omega) (by intros; omega)) ?_
          rintro v12 w12 ⟨hM12, hx12⟩
          have hx12' := hx12.size
          refine X.opw X.wN rfl (X.assign rfl) ?_
          refine X.opsEnd ?_
          refine X.inBlock ?_
          refine X.region ?_
          refine X.opw X.wN rfl (X.move (v := .int .i64 _) rfl) ?_
          refine X.opw X.wN rfl (X.add rfl rfl (X.w_i64 (by omega))) ?_
          refine X.opw X.wN rfl (X.assign (v := .int .i64 _) rfl) ?_
          refine X.opsEnd ?_
          have hMa : Mine KPk 30 (fun q => w8.heap.size ≤ q ∧ q < w12.heap.size) 0 0 w12 v12 ((keyP ((x0.toNat % 12 : Nat) : Int)) :: (xs.take (j + 1)).filter fun y => decide (y ≠ (keyP ((x0.toNat % 12 : Nat) : Int)))) := by
            rw [fr_step hx, if_neg (by simpa using hc)]
            exact (hM12).mono (fun q hq h => ⟨h, hq⟩)
          refine hback2 (j + 1, v12) _ _ ⟨rfl, rfl, rfl, rfl, rfl, rfl, rfl, rfl, trivial⟩ ⟨by dsimp only; omega, hMa, (((hkk.trans hk10).trans hk11).step hx12 (by first | (intros; (try simp only [] at *); omega) | exact fun k h => (hTT k h).1))⟩ (by dsimp only; omega)
        · refine X.skip ?_
          refine X.inBlock ?_
          refine X.region ?_
          refine X.opw X.wN rfl (X.move (v := .int .i64 _) rfl) ?_
          refine X.opw X.wN rfl (X.add rfl rfl (X.w_i64 (by omega))) ?_
          refine X.opw X.wN rfl (X.assign (v := .int .i64 _) rfl) ?_
          refine X.opsEnd ?_
          have hMa : Mine KPk 30 (fun q => w8.heap.size ≤ q ∧ q < w10.heap.size) 0 0 w10 v ((keyP ((x0.toNat % 12 : Nat) : Int)) :: (xs.take (j + 1)).filter fun y => decide (y ≠ (keyP ((x0.toNat % 12 : Nat) : Int)))) := by
            rw [fr_step hx, if_pos (by simpa using hc), List.append_nil]
            exact ((hM2.keep hk10)).mono (fun q hq h => ⟨h.1, hq⟩)
          refine hback2 (j + 1, v) _ _ ⟨rfl, rfl, rfl, rfl, rfl, rfl, rfl, rfl, trivial⟩ ⟨by dsimp only; omega, hMa, (hkk.trans hk10)⟩ (by dsimp only; omega)
      · refine X.opsEnd ?_
        refine X.condF rfl ?_
        refine X.exit rfl ?_
        refine X.region ?_
        refine X.opw X.wN rfl (X.move rfl) ?_
        refine X.opw X.wN rfl (X.assign rfl) ?_
        refine X.opsEnd ?_
        refine X.inBlock ?_
        refine X.region ?_
        refine X.opw X.wN rfl (X.move (v := .int .i64 _) rfl) ?_
        refine X.opw X.wN rfl (X.add rfl rfl (X.w_i64 (by omega))) ?_
        refine X.opw X.wN rfl (X.assign (v := .int .i64 _) rfl) ?_
        refine X.opsEnd ?_
        have hjn : j = n8 := by omega
        obtain ⟨hp1, hp2, hp3, hp4, _, _⟩ := put_keys (k := (keyP ((x0.toNat % 12 : Nat) : Int))) (p := pageP (x0.toNat : Int)) hroom hnd hL
        rw [hjn, List.take_of_length_le (by omega)] at hM2
        obtain ⟨A9, c9, e9, hc9, _⟩ := hM2.slice
        subst e9
        have hM9 := hM2
        refine hback (i + 1, A9, ((keyP ((x0.toNat % 12 : Nat) : Int)) :: xs.filter fun y => decide (y ≠ (keyP ((x0.toNat % 12 : Nat) : Int)))).length, c9) _ _ ⟨rfl, rfl, rfl, rfl, rfl, trivial⟩ ⟨by dsimp only; omega, by dsimp only; omega, _, _, _, w8.heap.size, wm.heap.size, (hC8.keep hkk), hp2, hp1, by omega, by dsimp only; omega, fr_nodup hnd, by dsimp only; rw [List.length_cons]; have := List.length_filter_le (fun y : PKEY => decide (y ≠ (keyP ((x0.toNat % 12 : Nat) : Int)))) xs; omega, hM9, fun k h => h.elim (fun h => ⟨(hTT k h).1, fun q => by have := hTl k h; omega⟩) (fun h => ⟨by omega, by omega⟩), by omega, Nat.le_refl _, (((((((hk.trans hk3).trans hk4).step hx5 (by first | (intros; (try simp only [] at *); omega) | exact fun k h => (hTT k h).1)).trans hk6).trans hk7).step hx8 (by first | (intros; (try simp only [] at *); omega) | exact fun k h => (hTT k h).1)).trans hkk)⟩ (by dsimp only; omega)
    · refine X.opw X.wN rfl (X.pickT (v := .bool false) rfl rfl) ?_
      refine X.opsEnd ?_
      refine X.condF rfl ?_
      refine X.exit rfl ?_
      refine X.seq ?_
      refine X.regionD (fun _ => False) 9 (by kernel_rfl) (by kernel_rfl) (fun w13 hk13 hz13 => ?_)
      refine X.dTake 0 rfl (by kernel_rfl) (by kernel_rfl) (by kernel_rfl) (X.dwN rfl) (fun w' hk' => X.move rfl) ?_
      refine X.dTake 2 rfl (by kernel_rfl) (by kernel_rfl) (by kernel_rfl) (X.dwN rfl) (fun w' hk' => X.move rfl) ?_
      refine X.dTake 3 rfl (by kernel_rfl) (by kernel_rfl) (by kernel_rfl) (X.dwN rfl) (fun w' hk' => X.move (v := .int .i64 _) rfl) ?_
      refine X.dTake 4 rfl (by kernel_rfl) (by kernel_rfl) (by kernel_rfl) (X.dwN rfl) (fun w' hk' => X.move rfl) ?_
      refine X.dTake 5 rfl (by kernel_rfl) (by kernel_rfl) (by kernel_rfl) (X.dwN rfl) (fun w' hk' => X.lenSl Try.underlying28 rfl) ?_
      refine X.dTake 6 rfl (by kernel_rfl) (by kernel_rfl) (by kernel_rfl) (X.dwN rfl) (fun w' hk' => minN rfl rfl) ?_
      refine X.dTake 7 rfl (by kernel_rfl) (by kernel_rfl) (by kernel_rfl) (X.dwN rfl) (fun w' hk' => X.cutHr Try.underlying28 Try.sizeOf30 rfl rfl (by omega)) ?_
      refine X.dE (i := 1) (by kernel_rfl) rfl (X.dwN rfl) (X.callE (Keys_c _ (hC.keep hk13) (by omega)) Try.call13 rfl rfl) (by rintro _ w14 ⟨kA, kc, rfl, hkc, hkM, hk14⟩ _; exact hk14.mono (fun _ _ h => h.elim)) ?_
      rintro _ w14 ⟨kA, kc, rfl, hkc, hkM, hk14⟩
      have hk14' := hk14.size
      refine X.dE (i := 8) (by kernel_rfl) rfl (X.dwN rfl) (X.callE (SameKeys_c _ (mine_0 KPk_flat hkM 0 (fun _ _ => Nat.zero_le _)) (((mine_0 KPk_flat hM 0 (fun _ _ => Nat.zero_le _)).take _ (by omega)).keep (hk13.trans hk14))) Try.call12 rfl rfl) (by rintro _ w15 ⟨rfl, hk15⟩ _; exact hk15.mono (fun _ _ h => h.elim)) ?_
      rintro _ w15 ⟨rfl, hk15⟩
      have hk15' := hk15.size
      refine X.dStep (i := 9) (by kernel_rfl) rfl (X.dwN rfl) (X.assign (v := .bool _) rfl) (fun h => absurd h (by decide)) ?_
      refine X.dEnd (by kernel_rfl) ?_
      refine X.ret1 (v := (.bool _)) Try.func3 Try.results3 rfl ?_
      refine ⟨by congr 1; refine decide_eq_true ?_; rw [hL, ← hn8]; exact take_min r xs, (((hk.trans hk13).trans hk14).trans hk15)⟩
  · refine X.opw X.wN rfl (X.move (v := .bool false) rfl) ?_
    refine X.opS rfl rfl rfl rfl rfl ?_
    refine X.opS rfl rfl rfl rfl rfl ?_
    refine X.opw X.wN rfl (X.pickF (v := .bool false) rfl rfl) ?_
    refine X.opsEnd ?_
    refine X.condF rfl ?_
    refine X.exit rfl ?_
    refine X.seq ?_
    refine X.regionD (fun _ => False) 9 (by kernel_rfl) (by kernel_rfl) (fun w16 hk16 hz16 => ?_)
    refine X.dTake 0 rfl (by kernel_rfl) (by kernel_rfl) (by kernel_rfl) (X.dwN rfl) (fun w' hk' => X.move rfl) ?_
    refine X.dTake 2 rfl (by kernel_rfl) (by kernel_rfl) (by kernel_rfl) (X.dwN rfl) (fun w' hk' => X.move rfl) ?_
    refine X.dTake 3 rfl (by kernel_rfl) (by kernel_rfl) (by kernel_rfl) (X.dwN rfl) (fun w' hk' => X.move (v := .int .i64 _) rfl) ?_
    refine X.dTake 4 rfl (by kernel_rfl) (by kernel_rfl) (by kernel_rfl) (X.dwN rfl) (fun w' hk' => X.move rfl) ?_
    refine X.dTake 5 rfl (by kernel_rfl) (by kernel_rfl) (by kernel_rfl) (X.dwN rfl) (fun w' hk' => X.lenSl Try.underlying28 rfl) ?_
    refine X.dTake 6 rfl (by kernel_rfl) (by kernel_rfl) (by kernel_rfl) (X.dwN rfl) (fun w' hk' => minN rfl rfl) ?_
    refine X.dTake 7 rfl (by kernel_rfl) (by kernel_rfl) (by kernel_rfl) (X.dwN rfl) (fun w' hk' => X.cutHr Try.underlying28 Try.sizeOf30 rfl rfl (by omega)) ?_
    refine X.dE (i := 1) (by kernel_rfl) rfl (X.dwN rfl) (X.callE (Keys_c _ (hC.keep hk16) (by omega)) Try.call13 rfl rfl) (by rintro _ w17 ⟨kA, kc, rfl, hkc, hkM, hk17⟩ _; exact hk17.mono (fun _ _ h => h.elim)) ?_
    rintro _ w17 ⟨kA, kc, rfl, hkc, hkM, hk17⟩
    have hk17' := hk17.size
    refine X.dE (i := 8) (by kernel_rfl) rfl (X.dwN rfl) (X.callE (SameKeys_c _ (mine_0 KPk_flat hkM 0 (fun _ _ => Nat.zero_le _)) (((mine_0 KPk_flat hM 0 (fun _ _ => Nat.zero_le _)).take _ (by omega)).keep (hk16.trans hk17))) Try.call12 rfl rfl) (by rintro _ w18 ⟨rfl, hk18⟩ _; exact hk18.mono (fun _ _ h => h.elim)) ?_
    rintro _ w18 ⟨rfl, hk18⟩
    have hk18' := hk18.size
    refine X.dStep (i := 9) (by kernel_rfl) rfl (X.dwN rfl) (X.assign (v := .bool _) rfl) (fun h => absurd h (by decide)) ?_
    refine X.dEnd (by kernel_rfl) ?_
    refine X.ret1 (v := (.bool _)) Try.func3 Try.results3 rfl ?_
    refine ⟨by congr 1; refine decide_eq_true ?_; rw [hL, ← hn8]; exact take_min r xs, (((hk.trans hk16).trans hk17).trans hk18)⟩
end Go.Proofs.Ytjjhddjllpihaaa

namespace Go.Proofs.Ytjjhddjllpihaaa
open Go Go.Proofs.Ytjjhddjllpihaaa.X
set_option linter.unusedVariables false
set_option linter.unusedSimpArgs false
/-- The row with the keys ahead of place i looked at. -/
def dropTo (nm : ByteArray) (L : PGS) (i : Nat) : PGS := (L.take i).filter (fun q => decide (q.1.1 ≠ nm)) ++ L.drop i
abbrev Ca.dropTo (s : Ca) (nm : ByteArray) (i : Nat) : Ca := { s with L := Go.Proofs.Ytjjhddjllpihaaa.dropTo nm s.L i }
theorem dropTo_0 (nm : ByteArray) (L : PGS) : dropTo nm L 0 = L := by simp [dropTo]
theorem dropTo_end (nm : ByteArray) (L : PGS) : dropTo nm L L.length = L.filter fun q => decide (q.1.1 ≠ nm) := by simp [dropTo]
theorem drop_at {α : Type} {l : List α} {i : Nat} {x : α} (h : l[i]? = some x) : l.drop i = x :: l.drop (i + 1) := by
  obtain ⟨h1, h2⟩ := List.getElem?_eq_some_iff.1 h
  rw [List.drop_eq_getElem_cons h1, h2]
theorem dropTo_keep {nm : ByteArray} {L : PGS} {i : Nat} {q : PKEY × List CD} (h : L[i]? = some q) (hn : q.1.1 ≠ nm) : dropTo nm L (i + 1) = dropTo nm L i := by
  rw [dropTo, dropTo, take_at h, List.filter_append, drop_at h]
  simp [hn]
theorem dropTo_gone {nm : ByteArray} {L : PGS} {i : Nat} {q : PKEY × List CD} (hd : (L.map (·.1)).Nodup) (h : L[i]? = some q) (hn : q.1.1 = nm) : dropTo nm L (i + 1) = (dropTo nm L i).filter fun p => decide (p.1 ≠ q.1) := by
  have e1 : L = L.take i ++ q :: L.drop (i + 1) := by rw [← drop_at h, List.take_append_drop]
  rw [e1, List.map_append, List.map_cons, List.nodup_append] at hd
  obtain ⟨hd1, hd2, hd3⟩ := hd
  rw [List.nodup_cons] at hd2
  rw [dropTo, dropTo, take_at h, List.filter_append, drop_at h, List.filter_append, List.filter_cons, List.filter_cons]
  have f1 : ((L.take i).filter fun p => decide (p.1.1 ≠ nm)).filter (fun p => decide (p.1 ≠ q.1)) = (L.take i).filter fun p => decide (p.1.1 ≠ nm) := List.filter_eq_self.2 fun p hp => decide_eq_true fun e => hd3 p.1 (List.mem_map.2 ⟨p, (List.mem_filter.1 hp).1, rfl⟩) q.1 (by simp) e
  have f2 : (L.drop (i + 1)).filter (fun p => decide (p.1 ≠ q.1)) = L.drop (i + 1) := List.filter_eq_self.2 fun p hp => decide_eq_true fun e => hd2.1 (List.mem_map.2 ⟨p, hp, e⟩)
  rw [f1, f2]
  simp [hn]
theorem dropTo_cnt {nm : ByteArray} {L : PGS} {i : Nat} {q : PKEY × List CD} (h : L[i]? = some q) : ((L.take (i + 1)).filter fun p => decide (p.1.1 ≠ nm)).length = ((L.take i).filter fun p => decide (p.1.1 ≠ nm)).length + if q.1.1 = nm then 0 else 1 := by
  rw [take_at h, List.filter_append, List.length_append]
  by_cases e : q.1.1 = nm <;> simp [e]
theorem dropTo_mem {nm : ByteArray} {L : PGS} {i : Nat} {q : PKEY × List CD} (h : q ∈ dropTo nm L i) : q ∈ L := by
  rcases List.mem_append.1 h with h | h
  · exact List.mem_of_mem_take (List.mem_filter.1 h).1
  · exact List.mem_of_mem_drop h
theorem dropTo_len {nm : ByteArray} {L : PGS} {i : Nat} : (dropTo nm L i).length ≤ L.length := by
  rw [dropTo, List.length_append]
  have := List.length_filter_le (fun q : PKEY × List CD => decide (q.1.1 ≠ nm)) (L.take i)
  rw [List.length_take] at this; rw [List.length_drop]; omega
-- f21 "(*pedigree/cache.Cache).Drop" params [24, 9] results [3] -> [(ResultVar.tmp 4)] nfree 0 ntmps 36 names
set_option maxHeartbeats 4000000 in
set_option maxRecDepth 100000 in
theorem Drop_c {T : Nat → Prop} {bc : Nat} {s0 : Ca} (nm : ByteArray) (w : World) (hC0 : CaIn T w bc s0) (hLn : s0.L.length ≤ 10000) : Ret Try.prog 21 #[ptrV bc, .string nm] w fun r w' => r = .int .i64 ((s0.L.length : Int) - ((s0.drop nm).L.length : Int)) ∧ CaIn T w' bc (s0.drop nm) ∧ Ext T w w' := by
  have hT0 := hC0.lt
  have hnd0 : (s0.L.map (·.1)).Nodup := by obtain ⟨bm, A, n, c, mm, TR, TD, hB, hM, hG, hP, hS⟩ := hC0; exact hP.nd
  obtain ⟨bm0, A0, n0, c0, mm0, TR0, TD0, hB0, hM0, hG0, hP0, hS0⟩ := id hC0
  refine X.enter Try.func21 rfl Try.ntmps21 rfl ?_
  refine X.seq ?_
  refine X.region ?_
  refine X.opw X.wN rfl (X.assign rfl) ?_
  refine X.opsEnd ?_
  refine X.seq ?_
  refine X.seq ?_
  refine X.region ?_
  refine X.opw X.wN rfl (X.move rfl) ?_
  refine X.opE X.wN rfl (X.callE (is_c _ hB0) Try.call25 rfl rfl) ?_
  rintro _ w1 ⟨rfl, hk1⟩
  have hk1' := hk1.size
  refine X.opw X.wN rfl (X.not_ rfl) ?_
  refine X.opsEnd ?_
  refine X.condF rfl ?_
  refine X.skip ?_
  refine X.seq ?_
  refine X.region ?_
  refine X.opw X.wN rfl (X.assign rfl) ?_
  refine X.opsEnd ?_
  refine X.seq ?_
  refine X.seq ?_
  refine X.region ?_
  refine X.opw X.wN rfl (X.move rfl) ?_
  refine X.opE X.wN rfl (X.callE (Keys_c _ (hC0.keep hk1) (by omega)) Try.call13 rfl rfl) ?_
  rintro _ w2 ⟨kA, kc, rfl, hkc, hkM, hk2⟩
  have hk2' := hk2.size
  refine X.opw X.wN rfl (X.lenSl Try.underlying28 rfl) ?_
  refine X.opw X.wN rfl (X.move rfl) ?_
  refine X.opsEnd ?_
  refine X.block ?_
  -- LOOP live: 0=c, 1=name, 5=n*, 12, 13, 14*
  refine X.loopL (σ := Nat) (fun s => [(0, ptrV bc), (1, .string nm), (5, .int .i64 ((s : Int) - (((s0.L.take s).filter fun p => decide (p.1.1 ≠ nm)).length : Int))), (12, .slice kA (s0.L.map (·.1)).length kc), (13, .int .i64 ((s0.L.map (·.1)).length : Int)), (14, .int .i64 (s : Int))]) (fun s w' => s ≤ s0.L.length ∧ CaIn T w' bc (s0.dropTo nm s) ∧ Mine KPk 30 (fun k => w.heap.size ≤ k ∧ k < w2.heap.size) 0 0 w' (.slice kA (s0.L.map (·.1)).length kc) (s0.L.map (·.1)) ∧ w2.heap.size ≤ w'.heap.size ∧ Ext T w w') (fun s => s0.L.length - s) 0 ⟨rfl, rfl, rfl, rfl, rfl, rfl, trivial⟩ ⟨Nat.zero_le _, (by rw [Ca.dropTo, dropTo_0]; exact hC0.keep (hk1.trans hk2)), hkM.mono (fun k hk h => ⟨by omega, hk⟩), by omega, (hk1.trans hk2).mono (fun _ _ h => h.elim)⟩ ?_
  rintro i b0 wl ⟨hi, hC, hkl, hwl, hxl⟩ hback
  have hxl' := hxl.size
  obtain ⟨bm, A, n, c, mm, TR, TD, hB, hM, hG, hP, hS⟩ := hC
  have hbcl := hB.lt
  have hcm := hS.cm
  have hbml := hG.lt
  have hSw : ∀ q, TR q → q < wl.heap.size := fun q h => hS.lt q (hS.tr q h)
  have hnl := hM.len
  rw [List.length_map] at hnl
  have hln : n ≤ s0.L.length := by rw [← hnl]; exact dropTo_len
  have hTl : ∀ k, T k → k < w.heap.size := hT0
  have hcl := List.length_filter_le (fun p : PKEY × List CD => decide (p.1.1 ≠ nm)) (s0.L.take i)
  rw [List.length_take] at hcl
  refine X.seq ?_
  refine X.region ?_
  refine X.opP X.wN rfl rfl (X.lss rfl rfl) (fun h15 => ?_) (fun h15 => ?_)
  · have hil : i < s0.L.length := by rw [List.length_map] at *; omega
    obtain ⟨x, hq⟩ := getL (l := s0.L) i rfl (by rw [List.length_map] at *; omega)
    have hx : (s0.L.map (·.1))[i]? = some x.1 := by rw [List.getElem?_map, hq]; rfl
    refine X.opsEnd ?_
    refine X.seq ?_
    refine X.condT rfl ?_
    refine X.skip ?_
    refine X.seq ?_
    refine X.block ?_
    refine X.seq ?_
    refine X.region ?_
    refine X.opw X.wN rfl (X.idxS (mine_0 KPk_flat hkl 0 (fun _ _ => Nat.zero_le _)) Try.underlying28 Try.sizeOf30 rfl rfl ⟨by omega, by omega⟩) ?_
    refine X.opw X.wN rfl (X.loadSN Try.isAgg30 Try.sizeOf30 (mine_0 KPk_flat hkl 0 (fun _ _ => Nat.zero_le _)) hx rfl (fun _ h => h.1) rfl) ?_
    refine X.opE X.wN rfl (X.allocE Try.zeroValue30 rfl) ?_
    rintro _ w3 ⟨rfl, hB3, hk3, hz3⟩
    refine X.opE X.wN rfl (X.storeNE Try.sizeOf30 hB3 rfl rfl rfl rfl (fun u hu => by simp at hu; rcases hu with rfl | rfl <;> rfl)) ?_
    rintro _ w4 ⟨hB4, hx4, hz4⟩
    refine X.opsEnd ?_
    refine X.seq ?_
    refine X.region ?_
    refine X.opw X.wN rfl (X.fldB (j := 0) Try.underlying30 rfl rfl Try.sizeOf9 rfl) ?_
    refine X.opw X.wN rfl (X.load1B Try.isAgg9 hB4 rfl rfl) ?_
    refine X.opw X.wN rfl (X.move (v := .string _) rfl) ?_
    refine X.opP X.wN rfl rfl (X.eqD rfl rfl) (fun h21 => ?_) (fun h21 => ?_)
    · refine X.opsEnd ?_
      refine X.condT rfl ?_
      refine X.seq ?_
      refine X.regionD (fun _ => False) 4 (by kernel_rfl) (by kernel_rfl) (fun w5 hk5 hz5 => ?_)
      refine X.dTake 3 rfl (by kernel_rfl) (by kernel_rfl) (by kernel_rfl) (X.dwN rfl) (fun w' hk' => X.loadNB Try.isAgg30 Try.sizeOf30 (hB4.keep (hk5.trans hk')) rfl rfl rfl) ?_
      refine X.dStep (i := 0) (by kernel_rfl) rfl (X.dwN rfl) (X.move rfl) (fun _ => Ext.refl _ _) ?_
      refine X.dStep (i := 1) (by kernel_rfl) rfl (X.dwN rfl) (X.nilCk rfl) (fun _ => Ext.refl _ _) ?_
      refine X.dTake 2 rfl (by kernel_rfl) (by kernel_rfl) (by kernel_rfl) (X.dwN rfl) (fun w' hk' => X.fldB (j := 2) Try.underlying66 rfl rfl Try.sizeOf64 rfl) ?_
      refine X.dE (i := 4) (by kernel_rfl) rfl (X.dwN rfl) (X.callE (fdrop_c x.1 _ (hB.keep ((hk3.step hx4 (by intros; (try simp only [] at *); omega)).trans hk5)) (((hM.keep hk3).ext hx4 (by intros; omega) (fun q h1 h2 => by have := hSw q h1; have h2 : q = _ := h2; omega)).keep hk5) hS.rc (by omega) hP.nd) Try.call28 rfl rfl) (fun _ _ _ h => absurd h (by decide)) ?_
      rintro _ w6 ⟨rfl, Ad, nd, cd, hBd, hMd, hx6⟩
      have hx6' := hx6.size
      refine X.dEnd (by kernel_rfl) ?_
      refine X.seq ?_
      refine X.regionD (fun _ => False) 5 (by kernel_rfl) (by kernel_rfl) (fun w7 hk7 hz7 => ?_)
      refine X.dTake 4 rfl (by kernel_rfl) (by kernel_rfl) (by kernel_rfl) (X.dwN rfl) (fun w' hk' => X.loadNB Try.isAgg30 Try.sizeOf30 (((hB4.keep hk5).ext hx6 (by intros; (try simp only []); first | omega | (intro hq; have hq2 := hq; (try simp only [] at hq2); omega) | (intro hzz; rcases hzz with hzz | hzz <;> first | omega | (have := hSw _ hzz; omega)))).keep (hk7.trans hk')) rfl rfl rfl) ?_
      refine X.dStep (i := 0) (by kernel_rfl) rfl (X.dwN rfl) (X.move rfl) (fun _ => Ext.refl _ _) ?_
      refine X.dStep (i := 1) (by kernel_rfl) rfl (X.dwN rfl) (X.nilCk rfl) (fun _ => Ext.refl _ _) ?_
      refine X.dStep (i := 2) (by kernel_rfl) rfl (X.dwN rfl) (X.fldB (j := 1) Try.underlying66 rfl rfl Try.sizeOf62 rfl) (fun _ => Ext.refl _ _) ?_
      refine X.dTake 3 rfl (by kernel_rfl) (by kernel_rfl) (by kernel_rfl) (X.dwN rfl) (fun w' hk' => X.load1B Try.isAgg62 (hBd.keep (hk7.trans hk')) rfl rfl) ?_
      refine X.dE (i := 5) (by kernel_rfl) rfl (X.dwN rfl) (X.deleteV (enc := fun x : PKEY => encPK x) (venc := fun v : Value => v) (a := x.1) Try.underlying62 keyPk (((((hG.keep hk3).ext hx4 (fun h => by have h : bm = _ := h; omega)).keep hk5).ext hx6 (fun h => h.elim (fun h => hS.cm h.symm) hS.rm)).keep hk7) rfl rfl) (fun _ _ _ h => absurd h (by decide)) ?_
      rintro _ w8 ⟨rfl, hGd, hx8, hz8⟩
      refine X.dEnd (by kernel_rfl) ?_
      refine X.region ?_
      refine X.opw X.wN rfl (X.move (v := .int .i64 _) rfl) ?_
      refine X.opw X.wN rfl (X.add (c := ((i : Int) - (((s0.L.take i).filter fun p => decide (p.1.1 ≠ nm)).length : Int)) + 1) rfl rfl (X.w_i64 (by omega))) ?_
      refine X.opw X.wN rfl (X.assign (v := .int .i64 _) rfl) ?_
      refine X.opsEnd ?_
      refine X.inBlock ?_
      refine X.region ?_
      refine X.opw X.wN rfl (X.add rfl rfl (X.w_i64 (by omega))) ?_
      refine X.opw X.wN rfl (X.move (v := .int .i64 _) rfl) ?_
      refine X.opsEnd ?_
      have hxa : Ext T wl w8 := (Ext.andThen (Ext.andThen (Ext.andThen (Ext.andThen (Ext.andThen (Ext.andThen (Ext.refl (T) _) hk3 (by intro q h1 h2; first | exact (h2 : False).elim | exact h2.elim (fun e => by rw [e]; exact hS.tc) (fun h => hS.tr q h) | exact (by have h2 : q = _ := h2; rw [h2]; exact hS.tm) | (exfalso; have h2 : q = _ := h2; omega))) hx4 (by intro q h1 h2; first | exact (h2 : False).elim | exact h2.elim (fun e => by rw [e]; exact hS.tc) (fun h => hS.tr q h) | exact (by have h2 : q = _ := h2; rw [h2]; exact hS.tm) | (exfalso; have h2 : q = _ := h2; omega))) hk5 (by intro q h1 h2; first | exact (h2 : False).elim | exact h2.elim (fun e => by rw [e]; exact hS.tc) (fun h => hS.tr q h) | exact (by have h2 : q = _ := h2; rw [h2]; exact hS.tm) | (exfalso; have h2 : q = _ := h2; omega))) hx6 (by intro q h1 h2; first | exact (h2 : False).elim | exact h2.elim (fun e => by rw [e]; exact hS.tc) (fun h => hS.tr q h) | exact (by have h2 : q = _ := h2; rw [h2]; exact hS.tm) | (exfalso; have h2 : q = _ := h2; omega))) hk7 (by intro q h1 h2; first | exact (h2 : False).elim | exact h2.elim (fun e => by rw [e]; exact hS.tc) (fun h => hS.tr q h) | exact (by have h2 : q = _ := h2; rw [h2]; exact hS.tm) | (exfalso; have h2 : q = _ := h2; omega))) hx8 (by intro q h1 h2; first | exact (h2 : False).elim | exact h2.elim (fun e => by rw [e]; exact hS.tc) (fun h => hS.tr q h) | exact (by have h2 : q = _ := h2; rw [h2]; exact hS.tm) | (exfalso; have h2 : q = _ := h2; omega)))
      have hcnt := dropTo_cnt (nm := nm) hq
      have hcz : ((i : Int) - (((s0.L.take i).filter fun p => decide (p.1.1 ≠ nm)).length : Int)) + 1 = ((((i + 1 : Nat)) : Int) - (((s0.L.take (i + 1)).filter fun p => decide (p.1.1 ≠ nm)).length : Int)) := by rw [hcnt, if_pos h21]; omega
      have hgone := dropTo_gone hnd0 hq h21
      have q1 : Mine KPk 30 TR 0 0 w8 (.slice Ad nd cd) ((s0.dropTo nm (i + 1)).L.map (·.1)) := by
        rw [Ca.dropTo, hgone, map_filter_ne]
        exact ((hMd.keep hk7).ext hx8 (by intros; omega) (fun q h1 h2 => by have := hSw q h1; have h2 : q = _ := h2; first | omega | exact hS.rm (by rw [← h2]; exact h1)))
      have q2 : Pgs TD w8 (del x.1 mm) (s0.dropTo nm (i + 1)).L := by
        rw [Ca.dropTo, hgone]
        exact (hP.del (Mp_nd hG)).ext (Ext.andThen (Ext.andThen (Ext.andThen (Ext.andThen (Ext.andThen (Ext.andThen (Ext.refl (fun q => q = bc ∨ q = bm ∨ TR q ∨ wl.heap.size ≤ q) _) hk3 (by intro q h1 h2; first | exact (h2 : False).elim | exact h2.elim .inl (fun h => .inr (.inr (.inl h))) | exact (.inr (.inl h2)) | exact .inr (.inr (.inr (by have h2 : q = _ := h2; omega))))) hx4 (by intro q h1 h2; first | exact (h2 : False).elim | exact h2.elim .inl (fun h => .inr (.inr (.inl h))) | exact (.inr (.inl h2)) | exact .inr (.inr (.inr (by have h2 : q = _ := h2; omega))))) hk5 (by intro q h1 h2; first | exact (h2 : False).elim | exact h2.elim .inl (fun h => .inr (.inr (.inl h))) | exact (.inr (.inl h2)) | exact .inr (.inr (.inr (by have h2 : q = _ := h2; omega))))) hx6 (by intro q h1 h2; first | exact (h2 : False).elim | exact h2.elim .inl (fun h => .inr (.inr (.inl h))) | exact (.inr (.inl h2)) | exact .inr (.inr (.inr (by have h2 : q = _ := h2; omega))))) hk7 (by intro q h1 h2; first | exact (h2 : False).elim | exact h2.elim .inl (fun h => .inr (.inr (.inl h))) | exact (.inr (.inl h2)) | exact .inr (.inr (.inr (by have h2 : q = _ := h2; omega))))) hx8 (by intro q h1 h2; first | exact (h2 : False).elim | exact h2.elim .inl (fun h => .inr (.inr (.inl h))) | exact (.inr (.inl h2)) | exact .inr (.inr (.inr (by have h2 : q = _ := h2; omega))))) (fun q h h2 => h2.elim (fun e => hS.dc (by rw [← e]; exact h)) (fun h2 => h2.elim (fun e => hS.dm (by rw [← e]; exact h)) (fun h2 => h2.elim (fun h2 => hS.rd q h2 h) (fun h2 => by have := hS.lt q (hS.td q h); omega))))
      refine hback (i + 1) _ _ ⟨(by first | rfl | exact congrArg (Value.int .i64) hcz | exact congrArg (Value.int .i64) hcz.symm), (by first | rfl | exact congrArg (Value.int .i64) hcz | exact congrArg (Value.int .i64) hcz.symm), (by first | rfl | exact congrArg (Value.int .i64) hcz | exact congrArg (Value.int .i64) hcz.symm), (by first | rfl | exact congrArg (Value.int .i64) hcz | exact congrArg (Value.int .i64) hcz.symm), (by first | rfl | exact congrArg (Value.int .i64) hcz | exact congrArg (Value.int .i64) hcz.symm), (by first | rfl | exact congrArg (Value.int .i64) hcz | exact congrArg (Value.int .i64) hcz.symm), trivial⟩ ⟨by omega, ⟨bm, Ad, nd, cd, _, TR, TD, ((hBd.keep hk7).ext hx8 (by intros; (try simp only []); first | omega | (intro hq; have hq2 := hq; (try simp only [] at hq2); omega) | (intro hzz; rcases hzz with hzz | hzz <;> first | omega | (have := hSw _ hzz; omega)))), q1, hGd, q2, hS.up hxa.size⟩, ((((((hkl.keep hk3).ext hx4 (by intros; omega) (fun q h1 h2 => by have h2 : q = _ := h2; have h1 : w.heap.size ≤ q ∧ q < w2.heap.size := h1; omega)).keep hk5).ext hx6 (by intros; omega) (fun q h1 h2 => by have := hTl q (by first | exact h2.elim (fun e => by rw [e]; exact hS.tc) (hS.tr q) | exact (by have h2 : q = _ := h2; rw [h2]; exact hS.tm)); have h1 : w.heap.size ≤ q ∧ q < w2.heap.size := h1; omega)).keep hk7).ext hx8 (by intros; omega) (fun q h1 h2 => by have := hTl q (by first | exact h2.elim (fun e => by rw [e]; exact hS.tc) (hS.tr q) | exact (by have h2 : q = _ := h2; rw [h2]; exact hS.tm)); have h1 : w.heap.size ≤ q ∧ q < w2.heap.size := h1; omega)), by omega, Ext.andThen hxl hxa (fun q _ h => h)⟩ (by omega)
    · refine X.opsEnd ?_
      refine X.condF rfl ?_
      refine X.skip ?_
      refine X.inBlock ?_
      refine X.region ?_
      refine X.opw X.wN rfl (X.add rfl rfl (X.w_i64 (by omega))) ?_
      refine X.opw X.wN rfl (X.move (v := .int .i64 _) rfl) ?_
      refine X.opsEnd ?_
      have hxa : Ext T wl w4 := (Ext.andThen (Ext.andThen (Ext.refl (T) _) hk3 (by intro q h1 h2; first | exact (h2 : False).elim | exact h2.elim (fun e => by rw [e]; exact hS.tc) (fun h => hS.tr q h) | exact (by have h2 : q = _ := h2; rw [h2]; exact hS.tm) | (exfalso; have h2 : q = _ := h2; omega))) hx4 (by intro q h1 h2; first | exact (h2 : False).elim | exact h2.elim (fun e => by rw [e]; exact hS.tc) (fun h => hS.tr q h) | exact (by have h2 : q = _ := h2; rw [h2]; exact hS.tm) | (exfalso; have h2 : q = _ := h2; omega)))
      have hcnt := dropTo_cnt (nm := nm) hq
      have hcz : ((i : Int) - (((s0.L.take i).filter fun p => decide (p.1.1 ≠ nm)).length : Int)) = ((((i + 1 : Nat)) : Int) - (((s0.L.take (i + 1)).filter fun p => decide (p.1.1 ≠ nm)).length : Int)) := by rw [hcnt, if_neg h21]; omega
      have hke : s0.dropTo nm i = s0.dropTo nm (i + 1) := congrArg (fun L => ({ s0 with L := L } : Ca)) (dropTo_keep hq h21).symm
      refine hback (i + 1) _ _ ⟨(by first | rfl | exact congrArg (Value.int .i64) hcz | exact congrArg (Value.int .i64) hcz.symm), (by first | rfl | exact congrArg (Value.int .i64) hcz | exact congrArg (Value.int .i64) hcz.symm), (by first | rfl | exact congrArg (Value.int .i64) hcz | exact congrArg (Value.int .i64) hcz.symm), (by first | rfl | exact congrArg (Value.int .i64) hcz | exact congrArg (Value.int .i64) hcz.symm), (by first | rfl | exact congrArg (Value.int .i64) hcz | exact congrArg (Value.int .i64) hcz.symm), (by first | rfl | exact congrArg (Value.int .i64) hcz | exact congrArg (Value.int .i64) hcz.symm), trivial⟩ ⟨by omega, hke ▸ ⟨bm, A, n, c, mm, TR, TD, (hB.keep (hk3.step hx4 (by intros; (try simp only [] at *); omega))), ((hM.keep hk3).ext hx4 (by intros; omega) (fun q h1 h2 => by have := hSw q h1; have h2 : q = _ := h2; first | omega | exact hS.rm (by rw [← h2]; exact h1))), ((hG.keep hk3).ext hx4 (fun h => by have h : bm = _ := h; omega)), hP.ext (Ext.andThen (Ext.andThen (Ext.refl (fun q => wl.heap.size ≤ q) _) hk3 (by intro q h1 h2; first | exact (h2 : False).elim | (have h2 : q = _ := h2; omega))) hx4 (by intro q h1 h2; first | exact (h2 : False).elim | (have h2 : q = _ := h2; omega))) (fun q h h2 => by have := hS.lt q (hS.td q h); have h2 : wl.heap.size ≤ q := h2; omega), hS.up hxa.size⟩, ((hkl.keep hk3).ext hx4 (by intros; omega) (fun q h1 h2 => by have h2 : q = _ := h2; have h1 : w.heap.size ≤ q ∧ q < w2.heap.size := h1; omega)), by omega, Ext.andThen hxl hxa (fun q _ h => h)⟩ (by omega)
  · refine X.opsEnd ?_
    refine X.seq ?_
    refine X.condF rfl ?_
    refine X.exit rfl ?_
    refine X.seq ?_
    refine X.region ?_
    refine X.opw X.wN rfl (X.move (v := .int .i64 _) rfl) ?_
    refine X.opw X.wN rfl (X.assign (v := .int .i64 _) rfl) ?_
    refine X.opsEnd ?_
    refine X.ret1 (v := (.int .i64 _)) Try.func21 Try.results21 rfl ?_
    have hin : i = s0.L.length := by rw [List.length_map] at *; omega
    have hCe : CaIn T wl bc (s0.dropTo nm i) := ⟨bm, A, n, c, mm, TR, TD, hB, hM, hG, hP, hS⟩
    rw [hin, Ca.dropTo, dropTo_end] at hCe
    subst hin
    refine ⟨?_, hCe, hxl⟩
    rw [Ca.drop, List.take_length]
end Go.Proofs.Ytjjhddjllpihaaa

namespace Go.Proofs.Ytjjhddjllpihaaa.X
open Go
set_option linter.unusedVariables false
section
variable {P : Program} {ρ : Operand → Value} {w : World} {dst : Option Tmp} {ty : TypeId} {pos : String} {aft : Array Edge} {g : Option (Nat × Bool)}
theorem loadSfN {α : Type} {K : Kd α} {lo hi : Nat} {T : TypeId} {x : Operand} {A : Option Addr} {n j o m : Nat} {xs : List α} {y : α} {vs : List Value} (hT : ∀ w, (isAgg T).run P w = .ok true w) (hs : ∀ w, (sizeOf T).run P w = .ok m w) (hS : Sl K lo hi w A n xs) (hy : xs[j]? = some y) (hx : ρ x = .pointer (some (((A.getD default).add (j * K.sz)).add o)))
    (hv : ∀ cs, K.R lo hi w y cs → (cs.drop o).take m = vs) (hm : vs.length = m) : Does P ⟨dst, .load T x, ty, pos, aft, g⟩ ρ w (.agg vs.toArray) w := by
  obtain ⟨ad, cs, e, hr, hq⟩ := hS.get j y hy
  subst e
  refine loadN hT hs hx hm (fun i u hu => ?_)
  rw [← hv cs hr, List.getElem?_take] at hu
  split at hu
  · rw [List.getElem?_drop] at hu
    rw [add_add, add_add]
    exact hq (o + i) u hu
  · cases hu
end
end Go.Proofs.Ytjjhddjllpihaaa.X

namespace Go.Proofs.Ytjjhddjllpihaaa
open Go Go.Proofs.Ytjjhddjllpihaaa.X
set_option linter.unusedVariables false
set_option linter.unusedSimpArgs false
abbrev OH := Int × PKEY × HDR
abbrev OD := Int × PKEY × List CD
abbrev evO (x : OH) : Value := .agg #[.int .i64 x.1, .string x.2.1.1, .int .i64 x.2.1.2, .slice x.2.2.1 x.2.2.2.1 x.2.2.2.2]
def KOh : Kd OH := Kd.plain 4 (fun x => [.int .i64 x.1, .string x.2.1.1, .int .i64 x.2.1.2, .slice x.2.2.1 x.2.2.2.1 x.2.2.2.2]) (fun _ => True) (fun _ => rfl) (fun _ u hu => by simp at hu; rcases hu with rfl | rfl | rfl | rfl <;> rfl)
theorem KOh_flat : Flat KOh := fun h => h
abbrev HL := PKEY × HDR
abbrev evH (x : HL) : Value := .agg #[.string x.1.1, .int .i64 x.1.2, .slice x.2.1 x.2.2.1 x.2.2.2]
def KHd : Kd HL := Kd.plain 3 (fun x => [.string x.1.1, .int .i64 x.1.2, .slice x.2.1 x.2.2.1 x.2.2.2]) (fun _ => True) (fun _ => rfl) (fun _ u hu => by simp at hu; rcases hu with rfl | rfl | rfl <;> rfl)
theorem KHd_flat : Flat KHd := fun h => h
theorem repsH {w : World} (x : HL) : RepsV KHd w [x] [evH x] := ⟨⟨_, rfl, rfl, trivial⟩, trivial⟩
theorem EHd : ElemInfo Try.prog 56 3 48 := ElemInfo.of (z := .agg #[.string ⟨#[]⟩, .int .i64 0, .slice none 0 0]) (by kernel_rfl) rfl rfl rfl
/-- A row of calls is a row of headers. -/
theorem sl_ops {lo hi : Nat} {w : World} {A : Option Addr} {n : Nat} {os : List OD} (h : Sl KOp lo hi w A n os) : ∃ l : List OH, Sl KOh lo hi w A n l ∧ ∀ (i : Nat) x, l[i]? = some x → ∃ o, os[i]? = some o ∧ x.1 = o.1 ∧ x.2.1 = o.2.1 ∧ okI o.1 ∧ okI o.2.1.2 ∧ x.2.2.2.1 ≤ x.2.2.2.2 ∧ Sl KC lo hi w x.2.2.1 x.2.2.2.1 o.2.2 := by
  rcases Nat.eq_zero_or_pos n with hn | hn
  · subst hn
    have : os = [] := List.eq_nil_of_length_eq_zero h.len
    subst this
    exact ⟨[], Sl.nil _ _ _ _ _, fun i x hx => by simp at hx⟩
  obtain ⟨ad, e, h1, h2, hc⟩ := h.at_ hn
  obtain ⟨l', q1, q2⟩ := list_choose (l := os) (β := OH) (Q := fun j x y => (∀ i u, ([.int .i64 y.1, .string y.2.1.1, .int .i64 y.2.1.2, .slice y.2.2.1 y.2.2.2.1 y.2.2.2.2] : List Value)[i]? = some u → w.cell? (ad.add (j * 4 + i)) = some u) ∧ y.1 = x.1 ∧ y.2.1 = x.2.1 ∧ okI x.1 ∧ okI x.2.1.2 ∧ y.2.2.2.1 ≤ y.2.2.2.2 ∧ Sl KC lo hi w y.2.2.1 y.2.2.2.1 x.2.2) (fun j x hx => by
    obtain ⟨cs, ⟨ca, cb, rfl, ⟨ea, h1⟩, cc, cd, rfl, ⟨ce, cf, rfl, ⟨ee, h2⟩, ⟨ef, h3⟩⟩, A', n', c', rfl, hnc, hs⟩, hq⟩ := hc j x hx
    subst ea ee ef
    exact ⟨(x.1, x.2.1, A', n', c'), fun i u hu => hq i u hu, rfl, rfl, h1, h3, hnc, hs⟩)
  refine ⟨l', ⟨by rw [q1]; exact h.len, h.bound, fun _ => ⟨ad, e, h1, h2, fun j y hy => ?_⟩⟩, fun i x hx => ?_⟩
  · have hj : j < os.length := by rw [← q1]; exact (List.getElem?_eq_some_iff.1 hy).1
    obtain ⟨y', g1, g2, _⟩ := q2 j _ (List.getElem?_eq_getElem hj)
    rw [hy] at g1; cases g1
    exact ⟨_, ⟨rfl, trivial⟩, g2⟩
  · have hj : i < os.length := by rw [← q1]; exact (List.getElem?_eq_some_iff.1 hx).1
    obtain ⟨y', g1, _, g2⟩ := q2 i _ (List.getElem?_eq_getElem hj)
    rw [hx] at g1; cases g1
    exact ⟨_, List.getElem?_eq_getElem hj, g2⟩
/-- What the headers of held pages point to. -/
structure Lps (TB : Nat → Prop) (w : World) (hs : List HL) (ps : PGS) : Prop where
  len : hs.length = ps.length
  get : ∀ (i : Nat) h p, hs[i]? = some h → ps[i]? = some p → h.1 = p.1 ∧ ∃ lo hi, (∀ k, lo ≤ k → k < hi → TB k) ∧ Sl KC lo hi w h.2.1 h.2.2.1 p.2
theorem Lps.ext {TB U : Nat → Prop} {w w' : World} {hs : List HL} {ps : PGS} (h : Lps TB w hs ps) (x : Ext U w w') (hU : ∀ k, TB k → ¬ U k) : Lps TB w' hs ps :=
  ⟨h.len, fun i a p h1 h2 => let ⟨g1, lo, hi, g2, g3⟩ := h.get i a p h1 h2; ⟨g1, lo, hi, g2, g3.ext x fun k a b => hU k (g2 k a b)⟩⟩
theorem Lps.keep {TB : Nat → Prop} {w w' : World} {hs : List HL} {ps : PGS} (h : Lps TB w hs ps) (x : Keep w w') : Lps TB w' hs ps := h.ext x fun _ _ h => h
theorem Lps.cons {TB TC : Nat → Prop} {w : World} {hs : List HL} {ps : PGS} {h : HL} {p : PKEY × List CD} (hl : Lps TB w hs ps) (hT : ∀ k, TB k → TC k) (h1 : h.1 = p.1) {lo hi : Nat} (h2 : ∀ k, lo ≤ k → k < hi → TC k) (h3 : Sl KC lo hi w h.2.1 h.2.2.1 p.2) : Lps TC w (h :: hs) (p :: ps) := by
  refine ⟨by simp [hl.len], fun i a q g1 g2 => ?_⟩
  cases i with
  | zero => simp at g1 g2; subst g1 g2; exact ⟨h1, lo, hi, h2, h3⟩
  | succ i =>
    simp at g1 g2
    obtain ⟨e1, lo', hi', e2, e3⟩ := hl.get i a q g1 g2
    exact ⟨e1, lo', hi', fun k a b => hT k (e2 k a b), e3⟩
/-- Is a page the first of its key in a row? -/
def isNew (ps : PGS) (k : PKEY) (pg : List CD) : Bool := match asc k ps with | none => false | some q => decide (q = pg)
-- f15 "pedigree/pedigreelaw08.light" params [44] results [4] -> [(ResultVar.tmp 2)] nfree 0 ntmps 14 names ["
set_option maxHeartbeats 4000000 in
set_option maxRecDepth 100000 in
theorem light_c (x : OH) (w : World) (hb : x.2.2.2.1 ≤ 9223372036854775807) : Ret Try.prog 15 #[evO x] w fun r w' => r = .bool (decide (x.2.1.1.size ≤ 100 ∧ x.2.2.2.1 ≤ 20)) ∧ Keep w w' := by
  refine X.enter Try.func15 rfl Try.ntmps15 rfl ?_
  refine X.seq ?_
  refine X.region ?_
  refine X.opE X.wN rfl (X.boxE rfl rfl) ?_
  rintro _ w1 ⟨rfl, hB1, hk1, hz1⟩
  refine X.opw X.wN rfl (X.assign rfl) ?_
  refine X.opsEnd ?_
  refine X.seq ?_
  refine X.region ?_
  refine X.opw X.wN rfl (X.fldB (j := 1) Try.underlying44 rfl rfl Try.sizeOf30 rfl) ?_
  refine X.opw X.wN rfl (X.fldB (j := 1) Try.underlying30 rfl rfl Try.sizeOf9 rfl) ?_
  refine X.opw X.wN rfl (X.load1B Try.isAgg9 hB1 rfl rfl) ?_
  refine X.opw X.wN rfl (X.lenS Try.underlying9 rfl) ?_
  refine X.opP X.wN rfl rfl (X.leq rfl rfl) (fun h7 => ?_) (fun h7 => ?_)
  · refine X.opw X.wN rfl (X.move (v := .bool true) rfl) ?_
    refine X.opw (X.wG rfl rfl rfl) rfl (X.fldB (j := 3) Try.underlying44 rfl rfl Try.sizeOf33 rfl) ?_
    refine X.opw (X.wG rfl rfl rfl) rfl (X.load1B Try.isAgg33 hB1 rfl rfl) ?_
    refine X.opw (X.wG rfl rfl rfl) rfl (X.lenSl Try.underlying33 rfl) ?_
    refine X.opw (X.wG rfl rfl rfl) rfl (X.leq rfl rfl) ?_
    refine X.opw X.wN rfl (X.pickT (v := .bool _) rfl rfl) ?_
    refine X.opw X.wN rfl (X.assign (v := .bool _) rfl) ?_
    refine X.opsEnd ?_
    refine X.ret1 (v := (.bool _)) Try.func15 Try.results15 rfl ?_
    refine ⟨?_, hk1⟩
    congr 1
    first | (rw [decide_eq_decide]; omega) | exact (decide_eq_false (by omega)).symm
  · refine X.opw X.wN rfl (X.move (v := .bool false) rfl) ?_
    refine X.opS rfl rfl rfl rfl rfl ?_
    refine X.opS rfl rfl rfl rfl rfl ?_
    refine X.opS rfl rfl rfl rfl rfl ?_
    refine X.opS rfl rfl rfl rfl rfl ?_
    refine X.opw X.wN rfl (X.pickF (v := .bool false) rfl rfl) ?_
    refine X.opw X.wN rfl (X.assign (v := .bool false) rfl) ?_
    refine X.opsEnd ?_
    refine X.ret1 (v := (.bool _)) Try.func15 Try.results15 rfl ?_
    refine ⟨?_, hk1⟩
    congr 1
    first | (rw [decide_eq_decide]; omega) | exact (decide_eq_false (by omega)).symm
-- f23 "pedigree/pedigreelaw08.newest" params [49, 30, 33] results [4] -> [(ResultVar.tmp 6)] nfree 0 ntmps 28
set_option maxHeartbeats 4000000 in
set_option maxRecDepth 100000 in
theorem newest_c {TB : Nat → Prop} {lo hi lo2 hi2 : Nat} {A A2 : Option Addr} {n c n2 c2 : Nat} {hl : List HL} {ps : PGS} {pg : List CD} (k : PKEY) (w : World) (hs : Sl KHd lo hi w A n hl) (hps : Lps TB w hl ps) (hp : Sl KC lo2 hi2 w A2 n2 pg) : Ret Try.prog 23 #[.slice A n c, encPK k, .slice A2 n2 c2] w fun r w' => r = .bool (isNew ps k pg) ∧ Keep w w' := by
  have hl1 := hs.len
  have hbd := hs.bound
  refine X.enter Try.func23 rfl Try.ntmps23 rfl ?_
  refine X.seq ?_
  refine X.region ?_
  refine X.opE X.wN rfl (X.boxE rfl rfl) ?_
  rintro _ w1 ⟨rfl, hB1, hk1, hz1⟩
  refine X.opw X.wN rfl (X.assign rfl) ?_
  refine X.opsEnd ?_
  refine X.seq ?_
  refine X.seq ?_
  refine X.region ?_
  refine X.opw X.wN rfl (X.assign rfl) ?_
  refine X.opsEnd ?_
  refine X.block ?_
  -- LOOP live: 0=l, 2=p, 4=k, 7=i*
  refine X.loopL (σ := Nat) (fun s => [(0, .slice A n c), (2, .slice A2 n2 c2), (4, .pointer (some ⟨w.heap.size, 0, none⟩)), (7, .int .i64 (s : Int))]) (fun s w' => s ≤ n ∧ asc k ps = asc k (ps.drop s) ∧ Blk w' w.heap.size [.string k.1, .int .i64 k.2] 30 ∧ Keep w w') (fun s => n - s) 0 ⟨rfl, rfl, rfl, rfl, trivial⟩ ⟨Nat.zero_le _, rfl, hB1, hk1⟩ ?_
  rintro i b0 wl ⟨hi, hna, hBl, hk⟩ hback
  have hk' := hk.size
  refine X.seq ?_
  refine X.seq ?_
  refine X.region ?_
  refine X.opw X.wN rfl (X.move (v := .int .i64 _) rfl) ?_
  refine X.opw X.wN rfl (X.move (v := .slice _ _ _) rfl) ?_
  refine X.opw X.wN rfl (X.lenSl Try.underlying49 rfl) ?_
  refine X.opP X.wN rfl rfl (X.lss rfl rfl) (fun h11 => ?_) (fun h11 => ?_)
  · obtain ⟨x, hx⟩ := getL i hl1 (by omega)
    obtain ⟨q, hq⟩ := getL (l := ps) i rfl (by rw [← hps.len]; omega)
    obtain ⟨hxq, loq, hiq, _, hsq⟩ := hps.get i x q hx hq
    have hdr := drop_at hq
    refine X.opsEnd ?_
    refine X.condT rfl ?_
    refine X.skip ?_
    refine X.seq ?_
    refine X.block ?_
    refine X.seq ?_
    refine X.regionD (fun _ => False) 7 (by kernel_rfl) (by kernel_rfl) (fun w2 hk2 hz2 => ?_)
    refine X.dTake 0 rfl (by kernel_rfl) (by kernel_rfl) (by kernel_rfl) (X.dwN rfl) (fun w' hk' => X.move (v := .slice _ _ _) rfl) ?_
    refine X.dTake 1 rfl (by kernel_rfl) (by kernel_rfl) (by kernel_rfl) (X.dwN rfl) (fun w' hk' => X.move (v := .int .i64 _) rfl) ?_
    refine X.dTake 2 rfl (by kernel_rfl) (by kernel_rfl) (by kernel_rfl) (X.dwN rfl) (fun w' hk' => X.idxS (hs.keep ((hk.trans hk2).trans hk')) Try.underlying49 Try.sizeOf56 rfl rfl ⟨by omega, by omega⟩) ?_
    refine X.dTake 3 rfl (by kernel_rfl) (by kernel_rfl) (by kernel_rfl) (X.dwN rfl) (fun w' hk' => X.fldA Try.underlying56 rfl rfl Try.sizeOf30) ?_
    refine X.dTake 4 rfl (by kernel_rfl) (by kernel_rfl) (by kernel_rfl) (X.dwN rfl) (fun w' hk' => X.loadSfN (o := 0) (vs := [.string x.1.1, .int .i64 x.1.2]) Try.isAgg30 Try.sizeOf30 (hs.keep ((hk.trans hk2).trans hk')) hx rfl (fun _ h => by rw [h.1]; rfl) rfl) ?_
    refine X.dTake 5 rfl (by kernel_rfl) (by kernel_rfl) (by kernel_rfl) (X.dwN rfl) (fun w' hk' => X.loadNB Try.isAgg30 Try.sizeOf30 (hBl.keep (hk2.trans hk')) rfl rfl rfl) ?_
    refine X.dTake 6 rfl (by kernel_rfl) (by kernel_rfl) (by kernel_rfl) (X.dwN rfl) (fun w' hk' => X.eqA eqPk_guard rfl rfl (eqPk x.1 k _)) ?_
    refine X.dEnd (by kernel_rfl) ?_
    refine X.condB rfl (fun hc => ?_) (fun hc => ?_)
    · refine X.seq ?_
      refine X.region ?_
      refine X.opw X.wN rfl (X.move (v := .slice _ _ _) rfl) ?_
      refine X.opw X.wN rfl (X.move (v := .int .i64 _) rfl) ?_
      refine X.opw X.wN rfl (X.idxS (hs.keep (hk.trans hk2)) Try.underlying49 Try.sizeOf56 rfl rfl ⟨by omega, by omega⟩) ?_
      refine X.opw X.wN rfl (X.fldA Try.underlying56 rfl rfl Try.sizeOf33) ?_
      refine X.opw X.wN rfl (X.loadSf Try.isAgg33 (hs.keep (hk.trans hk2)) hx rfl (fun _ h => by rw [h.1]; rfl)) ?_
      refine X.opw X.wN rfl (X.move rfl) ?_
      refine X.opE X.wN rfl (X.callE (Same_c _ (hsq.keep (hk.trans hk2)) (hp.keep (hk.trans hk2))) Try.call24 rfl rfl) ?_
      rintro _ w3 ⟨rfl, hk3⟩
      have hk3' := hk3.size
      refine X.opw X.wN rfl (X.assign (v := .bool _) rfl) ?_
      refine X.opsEnd ?_
      refine X.ret1 (v := (.bool _)) Try.func23 Try.results23 rfl ?_
      refine ⟨?_, ((hk.trans hk2).trans hk3)⟩
      rw [isNew, hna, hdr, asc, if_pos (by rw [← hxq, eq_comm]; simpa using hc)]
    · refine X.skip ?_
      refine X.inBlock ?_
      refine X.region ?_
      refine X.opw X.wN rfl (X.move (v := .int .i64 _) rfl) ?_
      refine X.opw X.wN rfl (X.add rfl rfl (X.w_i64 (by omega))) ?_
      refine X.opw X.wN rfl (X.assign (v := .int .i64 _) rfl) ?_
      refine X.opsEnd ?_
      refine hback (i + 1) _ _ ⟨rfl, rfl, rfl, rfl, trivial⟩ ⟨by omega, by rw [hna, hdr, asc, if_neg (by rw [← hxq, eq_comm]; simpa using hc)], (hBl.keep hk2), (hk.trans hk2)⟩ (by omega)
  · refine X.opsEnd ?_
    refine X.condF rfl ?_
    refine X.exit rfl ?_
    refine X.seq ?_
    refine X.region ?_
    refine X.opw X.wN rfl (X.assign rfl) ?_
    refine X.opsEnd ?_
    refine X.ret1 (v := (.bool _)) Try.func23 Try.results23 rfl ?_
    refine ⟨?_, hk⟩
    rw [isNew, hna, List.drop_eq_nil_of_le (by rw [← hps.len]; omega)]
    rfl
end Go.Proofs.Ytjjhddjllpihaaa

namespace Go.Proofs.Ytjjhddjllpihaaa
open Go Go.Proofs.Ytjjhddjllpihaaa.X
set_option linter.unusedVariables false
set_option linter.unusedSimpArgs false
/-- What is so of a cache, ps the pages put so far, the last ahead. -/
structure Rm (r : Nat) (s : Ca) (ps : PGS) (N : Nat) : Prop where
  room : s.room = (r : Int)
  len : s.L.length ≤ r
  new : ∀ q, q ∈ s.L → asc q.1 ps = some q.2
  h : 0 ≤ s.h ∧ s.h ≤ N
  m : 0 ≤ s.m ∧ s.m ≤ N
  g : 0 ≤ s.g ∧ s.g ≤ N
theorem CaIn.nd {T : Nat → Prop} {w : World} {bc : Nat} {s : Ca} (h : CaIn T w bc s) : (s.L.map (·.1)).Nodup := by
  obtain ⟨bm, A, n, c, mm, TR, TD, hB, hM, hG, hP, hS⟩ := h; exact hP.nd
theorem Rm.up {r : Nat} {s : Ca} {ps : PGS} {N M : Nat} (h : Rm r s ps N) (hm : N ≤ M) : Rm r s ps M := { h with h := ⟨h.h.1, by have := h.h.2; omega⟩, m := ⟨h.m.1, by have := h.m.2; omega⟩, g := ⟨h.g.1, by have := h.g.2; omega⟩ }
theorem Rm.nil (r : Nat) : Rm r ⟨r, [], 0, 0, 0⟩ [] 0 := ⟨rfl, Nat.zero_le _, fun q hq => by simp at hq, by simp, by simp, by simp⟩
theorem Rm.put {r : Nat} {s : Ca} {ps : PGS} {N : Nat} (h : Rm r s ps N) (k : PKEY) (p : List CD) : Rm r (s.put k p) ((k, p) :: ps) (N + 1) := by
  have hg := h.g; have hh := h.h; have hm := h.m; have hr := h.room; have hl := h.len
  have hn : ∀ q, q ∈ (k, p) :: (s.L.filter fun q => decide (q.1 ≠ k)) → asc q.1 ((k, p) :: ps) = some q.2 := fun q hq => by
    rcases List.mem_cons.1 hq with rfl | hq
    · simp [asc]
    · obtain ⟨h1, h2⟩ := List.mem_filter.1 hq
      rw [asc, if_neg (by simpa using h2)]
      exact h.new q h1
  have hfl := List.length_filter_le (fun q : PKEY × List CD => decide (q.1 ≠ k)) s.L
  unfold Ca.put
  split
  · rename_i h0
    have hL : s.L = [] := List.eq_nil_of_length_eq_zero (by omega)
    exact ⟨hr, hl, fun q hq => by rw [hL] at hq; simp at hq, ⟨hh.1, by omega⟩, ⟨hm.1, by omega⟩, ⟨hg.1, by omega⟩⟩
  · split
    · exact ⟨hr, by dsimp only; rw [List.length_dropLast, List.length_cons]; omega, fun q hq => hn q (List.dropLast_subset _ hq), ⟨hh.1, by dsimp only; omega⟩, ⟨hm.1, by dsimp only; omega⟩, ⟨by dsimp only; omega, by dsimp only; omega⟩⟩
    · exact ⟨hr, by dsimp only; omega, hn, ⟨hh.1, by dsimp only; omega⟩, ⟨hm.1, by dsimp only; omega⟩, ⟨hg.1, by dsimp only; omega⟩⟩
theorem Rm.drop {r : Nat} {s : Ca} {ps : PGS} {N : Nat} (h : Rm r s ps N) (nm : ByteArray) : Rm r (s.drop nm) ps N :=
  { h with len := Nat.le_trans (List.length_filter_le _ _) h.len, new := fun q hq => h.new q (List.mem_filter.1 hq).1 }
theorem filter_lt {k : PKEY} {p : List CD} {L : PGS} (h : (k, p) ∈ L) : (L.filter fun q => decide (q.1 ≠ k)).length + 1 ≤ L.length := by
  induction L with
  | nil => simp at h
  | cons q L ih =>
    rw [List.filter_cons]
    rcases List.mem_cons.1 h with rfl | h
    · rw [if_neg (by simp)]
      have := List.length_filter_le (fun q : PKEY × List CD => decide (q.1 ≠ k)) L
      rw [List.length_cons]; omega
    · split
      · rw [List.length_cons, List.length_cons]; have := ih h; omega
      · rw [List.length_cons]; have := ih h; omega
theorem Rm.get {r : Nat} {s : Ca} {ps : PGS} {N : Nat} (h : Rm r s ps N) (k : PKEY) : Rm r (s.get k) ps (N + 1) := by
  have hg := h.g; have hh := h.h; have hm := h.m
  unfold Ca.get
  split
  · exact ⟨h.room, h.len, h.new, ⟨hh.1, by dsimp only; omega⟩, ⟨by dsimp only; omega, by dsimp only; omega⟩, ⟨hg.1, by dsimp only; omega⟩⟩
  · rename_i p e
    have hp := asc_some e
    refine ⟨h.room, ?_, fun q hq => ?_, ⟨by dsimp only; omega, by dsimp only; omega⟩, ⟨hm.1, by dsimp only; omega⟩, ⟨hg.1, by dsimp only; omega⟩⟩
    · have h1 := filter_lt hp; have h2 := h.len
      dsimp only; rw [List.length_cons]; omega
    · rcases List.mem_cons.1 hq with rfl | hq
      · exact h.new _ hp
      · exact h.new q (List.mem_filter.1 hq).1
theorem get_keys {s : Ca} {k x : PKEY} (h : x ∈ s.L.map (·.1)) : x ∈ (s.get k).L.map (·.1) := by
  unfold Ca.get
  split
  · exact h
  · rename_i p e
    dsimp only
    rw [List.map_cons, map_filter_ne]
    by_cases e : x = k
    · rw [e]; exact List.mem_cons_self
    · exact List.mem_cons_of_mem _ (List.mem_filter.2 ⟨h, by simpa using e⟩)
theorem nodup_ne {xs : List PKEY} (h : xs.Nodup) {a b : Nat} {x y : PKEY} (hx : xs[a]? = some x) (hy : xs[b]? = some y) (hab : b < a) : x ≠ y := by
  obtain ⟨h1, rfl⟩ := List.getElem?_eq_some_iff.1 hx
  obtain ⟨h2, rfl⟩ := List.getElem?_eq_some_iff.1 hy
  exact fun e => List.pairwise_iff_getElem.1 h b a h2 h1 hab e.symm
theorem Copy_e {lo hi : Nat} {A : Option Addr} {n c : Nat} {pg : List CD} (w : World) (hs : Sl KC lo hi w A n pg) (hhi : hi ≤ w.heap.size) (hok : okPg pg) : Ret Try.prog 20 #[.slice A n c] w fun r w' => ∃ A' c', r = .slice A' pg.length c' ∧ Sl KC w.heap.size w'.heap.size w' A' pg.length pg ∧ Keep w w' :=
  (RCopy_t w hs hhi hok).mono fun r w' ⟨h1, h2⟩ => let ⟨A', c', e, _, h3⟩ := h1.sl; ⟨A', c', e, h3, h2⟩
theorem newest_e {TB : Nat → Prop} {lo hi lo2 hi2 : Nat} {A A2 : Option Addr} {n c n2 c2 : Nat} {hl : List HL} {ps : PGS} {pg : List CD} (k : PKEY) (w : World) (hs : Sl KHd lo hi w A n hl) (hps : Lps TB w hl ps) (hp : Sl KC lo2 hi2 w A2 n2 pg) (h : asc k ps = some pg) : Ret Try.prog 23 #[.slice A n c, encPK k, .slice A2 n2 c2] w fun r w' => r = .bool true ∧ Keep w w' :=
  (newest_c k w hs hps hp).mono fun r w' ⟨h1, h2⟩ => ⟨by rw [h1, isNew, h]; simp, h2⟩
-- f5 "pedigree/pedigreelaw08.CacheRoom" params [5, 38] results [4] -> [(ResultVar.tmp 4)] nfree 0 ntmps 136 n
set_option maxHeartbeats 4000000 in
set_option maxRecDepth 100000 in
theorem CacheRoom_c (w : World) (room : UInt8) (g1 : True) (A : Option Addr) (n c : Nat) (ops : List OD) (hc : n ≤ c) (hs0 : Sl KOp 0 w.heap.size w A n ops) (hz : ∀ o, o ∈ ops → ∀ q, q ∈ o.2.2 → q.1.length * 32 ≤ 140737488355328) : Ret Try.prog 5 #[.int .u8 (room.toNat : Int), .slice A n c] w fun r w' => r = .bool true ∧ Keep w w' := by
  obtain ⟨hdr, hsh, hops⟩ := sl_ops hs0
  have hbd := hsh.bound
  have hr8 := room.toNat_lt
  obtain ⟨r, hr⟩ : ∃ r, r = room.toNat % 8 := ⟨_, rfl⟩
  refine X.enter Try.func5 rfl Try.ntmps5 rfl ?_
  refine X.seq ?_
  refine X.region ?_
  refine X.opw X.wN rfl (X.assign rfl) ?_
  refine X.opsEnd ?_
  refine X.seq ?_
  refine X.seq ?_
  refine X.region ?_
  refine X.opE X.wN rfl (X.callE (awake_c _) Try.call7 rfl rfl) ?_
  rintro _ w1 ⟨rfl, hk1⟩
  have hk1' := hk1.size
  refine X.opw X.wN rfl (X.not_ rfl) ?_
  refine X.opsEnd ?_
  refine X.condF rfl ?_
  refine X.skip ?_
  refine X.seq ?_
  refine X.region ?_
  refine X.opw X.wN rfl (X.move (v := .int .u8 _) rfl) ?_
  refine X.opw X.wN rfl (X.cvI Try.underlying5 Try.underlying3 rfl (X.w_i64 (by omega))) ?_
  refine X.opw X.wN rfl (X.rem (c := (r : Int)) rfl rfl (by decide) (by rw [hr]; rfl)) ?_
  refine X.opw X.wN rfl (X.assign (v := .int .i64 _) rfl) ?_
  refine X.opsEnd ?_
  refine X.seq ?_
  refine X.region ?_
  refine X.opw X.wN rfl (X.move (v := .int .i64 _) rfl) ?_
  refine X.opE X.wN rfl (X.callE (New_e _ (by omega) _) Try.call8 rfl rfl) ?_
  rintro _ w2 ⟨bc, rfl, hC2, hk2⟩
  have hk2' := hk2.size
  refine X.opw X.wN rfl (X.move rfl) ?_
  refine X.opw X.wN rfl (X.extr rfl rfl) ?_
  refine X.opw X.wN rfl (X.extr rfl rfl) ?_
  refine X.opw X.wN rfl (X.assign rfl) ?_
  refine X.opw X.wN rfl (X.assign (v := .int .i64 _) rfl) ?_
  refine X.opsEnd ?_
  refine X.seq ?_
  refine X.seq ?_
  refine X.region ?_
  refine X.opw X.wN rfl (X.move (v := .int .i64 _) rfl) ?_
  refine X.opw X.wN rfl (X.neI rfl rfl) ?_
  refine X.opw X.wN rfl (X.move (v := .bool false) rfl) ?_
  refine X.opw (X.wG rfl rfl rfl) rfl (X.move rfl) ?_
  refine X.opw (X.wG rfl rfl rfl) rfl (X.eqPtrN (A := some _) Try.underlying24 rfl rfl) ?_
  refine X.opw X.wN rfl (X.pickF (v := .bool false) rfl rfl) ?_
  refine X.opsEnd ?_
  refine X.condF rfl ?_
  refine X.skip ?_
  refine X.seq ?_
  refine X.region ?_
  refine X.opw X.wN rfl (X.assign rfl) ?_
  refine X.opsEnd ?_
  refine X.seq ?_
  refine X.seq ?_
  refine X.region ?_
  refine X.opw X.wN rfl (X.assign rfl) ?_
  refine X.opsEnd ?_
  refine X.block ?_
  -- LOOP live: 1=ops, 5=n, 6=c, 8=last*, 9=i*
  refine X.loopL (σ := Nat × HDR) (fun s => [(1, .slice A n c), (5, .int .i64 (r : Int)), (6, ptrV bc), (8, .slice s.2.1 s.2.2.1 s.2.2.2), (9, .int .i64 (s.1 : Int))]) (fun s w' => s.1 ≤ n ∧ s.1 ≤ 60 ∧ ∃ cs TT TB ps hs lo hi, CaIn TT w' bc cs ∧ Rm r cs ps s.1 ∧ Sl KHd lo hi w' s.2.1 s.2.2.1 hs ∧ (∀ k, lo ≤ k → k < hi → TB k) ∧ hi ≤ w'.heap.size ∧ Lps TB w' hs ps ∧ ps.length ≤ s.1 ∧ (∀ k, TT k → w.heap.size ≤ k ∧ ¬ TB k) ∧ (∀ k, TB k → w.heap.size ≤ k ∧ k < w'.heap.size) ∧ s.2.2.1 ≤ s.2.2.2 ∧ Keep w w') (fun s => n - s.1) (0, none, 0, 0) ⟨rfl, rfl, rfl, rfl, rfl, trivial⟩ ⟨Nat.zero_le _, Nat.zero_le _, _, _, fun _ => False, [], [], 0, 0, hC2, Rm.nil r, Sl.nil _ _ _ _ _, fun k _ h => by omega, Nat.zero_le _, ⟨rfl, fun i h p h1 => by simp at h1⟩, Nat.le_refl _, fun k h => ⟨by omega, fun h => h⟩, fun k h => h.elim, Nat.le_refl _, (hk1.trans hk2)⟩ ?_
  rintro ⟨i, A8, n8, c8⟩ b0 wl ⟨hi1, hi2, cs, TT, TB, ps, hs, lo, hi, hC, hR, hsr, hrT, hrh, hps, hpl, hTT, hTB, hc8, hk⟩ hback
  dsimp only
  simp only at hi1 hi2 hR hsr hpl hc8
  have hk' := hk.size
  have hTl := hC.lt
  have hn8 := hsr.len
  have hpsl := hps.len
  have hRl := hR.len
  have hRr := hR.room
  have hRh := hR.h
  have hRm := hR.m
  have hRg := hR.g
  refine X.seq ?_
  refine X.seq ?_
  refine X.region ?_
  refine X.opw X.wN rfl (X.move (v := .int .i64 _) rfl) ?_
  refine X.opw X.wN rfl (X.move (v := .slice _ _ _) rfl) ?_
  refine X.opw X.wN rfl (X.lenSl Try.underlying38 rfl) ?_
  refine X.opP X.wN rfl rfl (X.lss rfl rfl) (fun h37 => ?_) (fun h37 => ?_)
  · refine X.opw X.wN rfl (X.move (v := .bool true) rfl) ?_
    refine X.opw (X.wG rfl rfl rfl) rfl (X.move (v := .int .i64 _) rfl) ?_
    refine X.opP (X.wG rfl rfl rfl) rfl rfl (X.lss rfl rfl) (fun h40 => ?_) (fun h40 => ?_)
    · obtain ⟨x, hx⟩ := getL i hsh.len (by omega)
      obtain ⟨o, ho, hx1, hx2, ho1, ho2, hxc, hpo⟩ := hops i x hx
      have hoz := hz o (List.mem_of_getElem? ho)
      have hxb := hpo.len
      refine X.opw X.wN rfl (X.pickT (v := .bool true) rfl rfl) ?_
      refine X.opsEnd ?_
      refine X.condT rfl ?_
      refine X.skip ?_
      refine X.seq ?_
      refine X.block ?_
      refine X.seq ?_
      refine X.region ?_
      refine X.opw X.wN rfl (X.move (v := .slice _ _ _) rfl) ?_
      refine X.opw X.wN rfl (X.move (v := .int .i64 _) rfl) ?_
      refine X.opw X.wN rfl (X.idxS (hsh.keep hk) Try.underlying38 Try.sizeOf44 rfl rfl ⟨by omega, by omega⟩) ?_
      refine X.opw X.wN rfl (X.loadSN Try.isAgg44 Try.sizeOf44 (hsh.keep hk) hx rfl (fun _ h => h.1) rfl) ?_
      refine X.opE X.wN rfl (X.allocE Try.zeroValue44 rfl) ?_
      rintro _ w3 ⟨rfl, hB3, hk3, hz3⟩
      refine X.opE X.wN rfl (X.storeNE Try.sizeOf44 hB3 rfl rfl rfl rfl (fun u hu => by simp at hu; rcases hu with rfl | rfl | rfl | rfl <;> rfl)) ?_
      rintro _ w4 ⟨hB4, hx4, hz4⟩
      refine X.opsEnd ?_
      refine X.seq ?_
      refine X.seq ?_
      refine X.region ?_
      refine X.opw X.wN rfl (X.loadNB Try.isAgg44 Try.sizeOf44 hB4 rfl rfl rfl) ?_
      refine X.opE X.wN rfl (X.callE (light_c x _ hpo.bound) Try.call15 rfl rfl) ?_
      rintro _ w5 ⟨rfl, hk5⟩
      have hk5' := hk5.size
      refine X.opw X.wN rfl (X.not_ rfl) ?_
      refine X.opsEnd ?_
      refine X.condB rfl (fun hcl => ?_) (fun hcl => ?_)
      · refine X.exit rfl ?_
        refine X.region ?_
        refine X.opw X.wN rfl (X.move (v := .int .i64 _) rfl) ?_
        refine X.opw X.wN rfl (X.add rfl rfl (X.w_i64 (by omega))) ?_
        refine X.opw X.wN rfl (X.assign (v := .int .i64 _) rfl) ?_
        refine X.opsEnd ?_
        refine hback (i + 1, A8, n8, c8) _ _ ⟨rfl, rfl, rfl, rfl, rfl, trivial⟩ ⟨by dsimp only; omega, by dsimp only; omega, cs, TT, TB, ps, hs, lo, hi, (hC.keep ((hk3.step hx4 (by first | (intros; (try simp only [] at *); omega) | exact fun k h => (hTT k h).1 | exact fun k h => (hTT2 k h).1)).trans hk5)), hR.up (by dsimp only; omega), (hsr.keep ((hk3.step hx4 (by first | (intros; (try simp only [] at *); omega) | exact fun k h => (hTT k h).1 | exact fun k h => (hTT2 k h).1)).trans hk5)), hrT, by omega, (((hps.keep hk3).ext hx4 (fun k h1 h2 => by have := hTB k h1; first | (have h2 : k = _ := h2; omega) | (have h2 : w.heap.size ≤ k := h2; omega))).keep hk5), by dsimp only; omega, hTT, fun k h => ⟨(hTB k h).1, by have := (hTB k h).2; omega⟩, hc8, (((hk.trans hk3).step hx4 (by first | (intros; (try simp only [] at *); omega) | exact fun k h => (hTT k h).1 | exact fun k h => (hTT2 k h).1)).trans hk5)⟩ (by dsimp only; omega)
      · have hlt : x.2.1.1.size ≤ 100 ∧ x.2.2.2.1 ≤ 20 := by simpa using hcl
        have hok : okPg o.2.2 := ⟨by omega, hoz⟩
        refine X.skip ?_
        refine X.seq ?_
        refine X.seq ?_
        refine X.region ?_
        refine X.opw X.wN rfl (X.fldB (j := 0) Try.underlying44 rfl rfl Try.sizeOf3 rfl) ?_
        refine X.opw X.wN rfl (X.load1B Try.isAgg3 (hB4.keep hk5) rfl rfl) ?_
        refine X.opsEnd ?_
        refine X.block ?_
        refine X.seq ?_
        refine X.region ?_
        refine X.opP X.wN rfl rfl (X.eqI rfl rfl) (fun h58 => ?_) (fun h58 => ?_)
        · refine X.opw X.wN rfl (X.assign (v := .bool true) rfl) ?_
          refine X.opsEnd ?_
          refine X.condT rfl ?_
          refine X.seq ?_
          refine X.region ?_
          refine X.opw X.wN rfl (X.move rfl) ?_
          refine X.opw X.wN rfl (X.fldB (j := 1) Try.underlying44 rfl rfl Try.sizeOf30 rfl) ?_
          refine X.opw X.wN rfl (X.loadNB Try.isAgg30 Try.sizeOf30 (hB4.keep hk5) rfl rfl rfl) ?_
          refine X.opw X.wN rfl (X.fldB (j := 3) Try.underlying44 rfl rfl Try.sizeOf33 rfl) ?_
          refine X.opw X.wN rfl (X.load1B Try.isAgg33 (hB4.keep hk5) rfl rfl) ?_
          refine X.opE X.wN rfl (X.callE (Put_c x.2.1 _ (hC.keep ((hk3.step hx4 (by first | (intros; (try simp only [] at *); omega) | exact fun k h => (hTT k h).1 | exact fun k h => (hTT2 k h).1)).trans hk5)) (hpo.keep (((hk.trans hk3).step hx4 (by first | (intros; (try simp only [] at *); omega) | exact fun k h => (hTT k h).1 | exact fun k h => (hTT2 k h).1)).trans hk5)) (by omega) hok (by omega) (by omega) (by omega)) Try.call10 rfl rfl) ?_
          rintro _ w6 ⟨rfl, hC6, hx6⟩
          have hx6' := hx6.size
          refine X.opsEnd ?_
          refine X.regionD (fun k => w6.heap.size ≤ k) 9 (by kernel_rfl) (by kernel_rfl) (fun w7 hk7 hz7 => ?_)
          refine X.dTake 0 rfl (by kernel_rfl) (by kernel_rfl) (by kernel_rfl) (X.dwN rfl) (fun w' hk' => X.fldB (j := 1) Try.underlying44 rfl rfl Try.sizeOf30 rfl) ?_
          refine X.dTake 1 rfl (by kernel_rfl) (by kernel_rfl) (by kernel_rfl) (X.dwN rfl) (fun w' hk' => X.loadNB Try.isAgg30 Try.sizeOf30 ((((hB4.keep hk5).ext hx6 (by first | (intros; (try simp only []); omega) | exact fun k h e => by (have := hTl k h; have e2 : k = _ := e; omega) | exact fun h => by (have := hTl _ h; omega) | exact fun k h1 h2 h3 => (hTT k h3).2 (hrT k h1 h2) | exact fun k h1 h2 h3 => (hTT2 k h3).2.1 (hrT k h1 h2) | exact fun k _ h1 h2 => by (have := (hTT k h2).1; omega) | exact fun k _ h1 h2 => by (have := (hTT2 k h2).1; omega) | exact fun k h1 h2 => h1.elim (fun h => by (have := hTl k h; have h2 : _ ≤ k := h2; omega)) (fun h => by (have h2 : _ ≤ k := h2; omega)) | exact fun k h1 h2 => (hTT2 k h2).2.2 h1)).keep hk7).ext hk' (by first | (intros; (try simp only []); omega) | exact fun k h e => by (have := hTl k h; have e2 : k = _ := e; omega) | exact fun h => by (have := hTl _ h; omega) | exact fun k h1 h2 h3 => (hTT k h3).2 (hrT k h1 h2) | exact fun k h1 h2 h3 => (hTT2 k h3).2.1 (hrT k h1 h2) | exact fun k _ h1 h2 => by (have := (hTT k h2).1; omega) | exact fun k _ h1 h2 => by (have := (hTT2 k h2).1; omega) | exact fun k h1 h2 => h1.elim (fun h => by (have := hTl k h; have h2 : _ ≤ k := h2; omega)) (fun h => by (have h2 : _ ≤ k := h2; omega)) | exact fun k h1 h2 => (hTT2 k h2).2.2 h1)) rfl rfl rfl) ?_
          refine X.dTake 2 rfl (by kernel_rfl) (by kernel_rfl) (by kernel_rfl) (X.dwN rfl) (fun w' hk' => X.fldB (j := 3) Try.underlying44 rfl rfl Try.sizeOf33 rfl) ?_
          refine X.dTake 3 rfl (by kernel_rfl) (by kernel_rfl) (by kernel_rfl) (X.dwN rfl) (fun w' hk' => X.load1B Try.isAgg33 ((((hB4.keep hk5).ext hx6 (by first | (intros; (try simp only []); omega) | exact fun k h e => by (have := hTl k h; have e2 : k = _ := e; omega) | exact fun h => by (have := hTl _ h; omega) | exact fun k h1 h2 h3 => (hTT k h3).2 (hrT k h1 h2) | exact fun k h1 h2 h3 => (hTT2 k h3).2.1 (hrT k h1 h2) | exact fun k _ h1 h2 => by (have := (hTT k h2).1; omega) | exact fun k _ h1 h2 => by (have := (hTT2 k h2).1; omega) | exact fun k h1 h2 => h1.elim (fun h => by (have := hTl k h; have h2 : _ ≤ k := h2; omega)) (fun h => by (have h2 : _ ≤ k := h2; omega)) | exact fun k h1 h2 => (hTT2 k h2).2.2 h1)).keep hk7).ext hk' (by first | (intros; (try simp only []); omega) | exact fun k h e => by (have := hTl k h; have e2 : k = _ := e; omega) | exact fun h => by (have := hTl _ h; omega) | exact fun k h1 h2 h3 => (hTT k h3).2 (hrT k h1 h2) | exact fun k h1 h2 h3 => (hTT2 k h3).2.1 (hrT k h1 h2) | exact fun k _ h1 h2 => by (have := (hTT k h2).1; omega) | exact fun k _ h1 h2 => by (have := (hTT2 k h2).1; omega) | exact fun k h1 h2 => h1.elim (fun h => by (have := hTl k h; have h2 : _ ≤ k := h2; omega)) (fun h => by (have h2 : _ ≤ k := h2; omega)) | exact fun k h1 h2 => (hTT2 k h2).2.2 h1)) rfl rfl) ?_
          refine X.dTake 7 rfl (by kernel_rfl) (by kernel_rfl) (by kernel_rfl) (X.dwN rfl) (fun w' hk' => X.move (v := .slice _ _ _) rfl) ?_
          refine X.dE (i := 4) (by kernel_rfl) rfl (X.dwN rfl) (X.callE (Copy_e _ (hpo.keep (((((hk.trans hk3).step hx4 (by first | (intros; (try simp only [] at *); omega) | exact fun k h => (hTT k h).1 | exact fun k h => (hTT2 k h).1)).trans hk5).step hx6 (by first | (intros; (try simp only [] at *); omega) | exact fun k h => (hTT k h).1 | exact fun k h => (hTT2 k h).1)).trans hk7)) (by omega) hok) Try.call20 rfl rfl) (by rintro _ w8 ⟨Ac, cc, rfl, hsc, hk8⟩ _; exact hk8.mono (fun _ _ h => h.elim)) ?_
          rintro _ w8 ⟨Ac, cc, rfl, hsc, hk8⟩
          have hk8' := hk8.size
          refine X.dTake 5 rfl (by kernel_rfl) (by kernel_rfl) (by kernel_rfl) (X.dwN rfl) (fun w' hk' => X.buildB (vs := [(0, encPK x.2.1), (1, .slice Ac o.2.2.length cc)]) (cs := #[.string x.2.1.1, .int .i64 x.2.1.2, .slice Ac o.2.2.length cc]) rfl (by kernel_rfl)) ?_
          refine X.dE (i := 6) (by kernel_rfl) rfl (X.dwN rfl) (X.litKF KHd_flat (K := KHd) (xs := [Operand.tmp 70]) (vs := [evH (x.2.1, Ac, o.2.2.length, cc)]) (ys := [(x.2.1, Ac, o.2.2.length, cc)]) Try.underlying49 Try.sizeOf56 Try.zeroValue56 rfl rfl rfl rfl rfl (repsH _)) (by rintro _ w9 ⟨rfl, hs9, hB9, hk9, hz9⟩ _; exact hk9.mono (fun _ _ h => h.elim)) ?_
          rintro _ w9 ⟨rfl, hs9, hB9, hk9, hz9⟩
          refine X.dE (i := 8) (by kernel_rfl) rfl (X.dwN rfl) (X.appE (K := KHd) (S := fun q => w8.heap.size ≤ q) KHd_flat Try.underlying49 EHd rfl rfl (Mine.litV (vs := [evH (x.2.1, Ac, o.2.2.length, cc)]) (w0 := w8) KHd_flat hB9 (repsH _) rfl (by omega) (by first | (intros; (try simp only [] at *); omega) | exact fun k h => (hTT k h).1 | exact fun k h => (hTT2 k h).1)) (((hsr.keep ((hk3.step hx4 (by first | (intros; (try simp only [] at *); omega) | exact fun k h => (hTT k h).1 | exact fun k h => (hTT2 k h).1)).trans hk5)).ext hx6 (by first | (intros; (try simp only []); omega) | exact fun k h e => by (have := hTl k h; have e2 : k = _ := e; omega) | exact fun h => by (have := hTl _ h; omega) | exact fun k h1 h2 h3 => (hTT k h3).2 (hrT k h1 h2) | exact fun k h1 h2 h3 => (hTT2 k h3).2.1 (hrT k h1 h2) | exact fun k _ h1 h2 => by (have := (hTT k h2).1; omega) | exact fun k _ h1 h2 => by (have := (hTT2 k h2).1; omega) | exact fun k h1 h2 => h1.elim (fun h => by (have := hTl k h; have h2 : _ ≤ k := h2; omega)) (fun h => by (have h2 : _ ≤ k := h2; omega)) | exact fun k h1 h2 => (hTT2 k h2).2.2 h1)).keep ((hk7.trans hk8).trans hk9)) (by (try simp only [List.length_append, List.length_cons, List.length_nil, List.length_take, List.length_drop, List.length_map, List.length_range]); omega) (by intros; omega)) (by rintro v10 w10 ⟨hM10, hx10⟩ _; exact hx10.mono (fun k _ h => by (try simp only [] at *); omega)) ?_
          rintro v10 w10 ⟨hM10, hx10⟩
          have hx10' := hx10.size
          refine X.dStep (i := 9) (by kernel_rfl) rfl (X.dwN rfl) (X.assign rfl) (fun h => absurd h (by decide)) ?_
          refine X.dEnd (by kernel_rfl) ?_
          refine X.inBlock ?_
          refine X.seq ?_
          refine X.region ?_
          refine X.opw X.wN rfl (X.move rfl) ?_
          have q9 := hM10.slice
          obtain ⟨A9, c9, e9, hc9, _⟩ := q9
          subst e9
          have hR2 := (hR.put x.2.1 o.2.2)
          have hR2l := hR2.len
          refine X.opE X.wN rfl (X.callE (Keys_c _ ((hC6.keep ((hk7.trans hk8).trans hk9)).ext hx10 (by first | (intros; (try simp only []); omega) | exact fun k h e => by (have := hTl k h; have e2 : k = _ := e; omega) | exact fun h => by (have := hTl _ h; omega) | exact fun k h1 h2 h3 => (hTT k h3).2 (hrT k h1 h2) | exact fun k h1 h2 h3 => (hTT2 k h3).2.1 (hrT k h1 h2) | exact fun k _ h1 h2 => by (have := (hTT k h2).1; omega) | exact fun k _ h1 h2 => by (have := (hTT2 k h2).1; omega) | exact fun k h1 h2 => h1.elim (fun h => by (have := hTl k h; have h2 : _ ≤ k := h2; omega)) (fun h => by (have h2 : _ ≤ k := h2; omega)) | exact fun k h1 h2 => (hTT2 k h2).2.2 h1)) (by omega)) Try.call13 rfl rfl) ?_
          rintro _ w11 ⟨kA, kc, rfl, hkc, hkM, hk11⟩
          have hk11' := hk11.size
          refine X.opw X.wN rfl (X.assign (v := .slice _ _ _) rfl) ?_
          refine X.opsEnd ?_
          refine X.seq ?_
          refine X.seq ?_
          refine X.region ?_
          refine X.opw X.wN rfl (X.move (v := .slice _ _ _) rfl) ?_
          refine X.opw X.wN rfl (X.lenSl Try.underlying28 rfl) ?_
          refine X.opw X.wN rfl (X.move (v := .int .i64 _) rfl) ?_
          refine X.opP X.wN rfl rfl (X.gtr rfl rfl) (fun h86 => ?_) (fun h86 => ?_)
          · exfalso
            rw [List.length_map] at h86
            omega
          · refine X.opsEnd ?_
            refine X.condF rfl ?_
            refine X.skip ?_
            refine X.seq ?_
            refine X.region ?_
            refine X.opw X.wN rfl (X.assign rfl) ?_
            refine X.opsEnd ?_
            refine X.block ?_
            -- LOOP live: 1=ops, 5=n, 6=c, 8=last, 9=i, 11=k, 12=a*
            refine X.loopL (σ := Nat) (fun s => [(1, .slice A n c), (5, .int .i64 (r : Int)), (6, ptrV bc), (8, .slice A9 (((x.2.1, Ac, o.2.2.length, cc) : HL) :: hs).length c9), (9, .int .i64 (i : Int)), (11, .slice kA ((cs.put x.2.1 o.2.2).L.map (·.1)).length kc), (12, .int .i64 (s : Int))]) (fun s w' => s ≤ ((cs.put x.2.1 o.2.2).L.map (·.1)).length ∧ Keep w11 w') (fun s => ((cs.put x.2.1 o.2.2).L.map (·.1)).length - s) 0 ⟨rfl, rfl, rfl, rfl, rfl, rfl, rfl, trivial⟩ ⟨Nat.zero_le _, Keep.refl _⟩ ?_
            rintro a ba wa ⟨ha, hka⟩ hback3
            have hka' := hka.size
            refine X.seq ?_
            refine X.seq ?_
            refine X.region ?_
            refine X.opw X.wN rfl (X.move (v := .int .i64 _) rfl) ?_
            refine X.opw X.wN rfl (X.move (v := .slice _ _ _) rfl) ?_
            refine X.opw X.wN rfl (X.lenSl Try.underlying28 rfl) ?_
            refine X.opP X.wN rfl rfl (X.lss rfl rfl) (fun h90 => ?_) (fun h90 => ?_)
            · refine X.opsEnd ?_
              refine X.condT rfl ?_
              refine X.skip ?_
              refine X.seq ?_
              refine X.block ?_
              refine X.seq ?_
              refine X.region ?_
              refine X.opw X.wN rfl (X.assign rfl) ?_
              refine X.opsEnd ?_
              refine X.block ?_
              -- LOOP live: 1=ops, 5=n, 6=c, 8=last, 9=i, 11=k, 12=a, 13=b*
              refine X.loopL (σ := Nat) (fun s => [(1, .slice A n c), (5, .int .i64 (r : Int)), (6, ptrV bc), (8, .slice A9 (((x.2.1, Ac, o.2.2.length, cc) : HL) :: hs).length c9), (9, .int .i64 (i : Int)), (11, .slice kA ((cs.put x.2.1 o.2.2).L.map (·.1)).length kc), (12, .int .i64 (a : Int)), (13, .int .i64 (s : Int))]) (fun s w' => s ≤ a ∧ Keep wa w') (fun s => a - s) 0 ⟨rfl, rfl, rfl, rfl, rfl, rfl, rfl, rfl, trivial⟩ ⟨Nat.zero_le _, Keep.refl _⟩ ?_
              rintro b bb wb ⟨hb, hkb⟩ hback5
              have hkb' := hkb.size
              refine X.seq ?_
              refine X.seq ?_
              refine X.region ?_
              refine X.opw X.wN rfl (X.move (v := .int .i64 _) rfl) ?_
              refine X.opw X.wN rfl (X.move (v := .int .i64 _) rfl) ?_
              refine X.opP X.wN rfl rfl (X.lss rfl rfl) (fun h95 => ?_) (fun h95 => ?_)
              · obtain ⟨ya, hya⟩ := getL (l := (cs.put x.2.1 o.2.2).L.map (·.1)) a rfl (by omega)
                obtain ⟨yb, hyb⟩ := getL (l := (cs.put x.2.1 o.2.2).L.map (·.1)) b rfl (by omega)
                refine X.opsEnd ?_
                refine X.condT rfl ?_
                refine X.skip ?_
                refine X.seq ?_
                refine X.block ?_
                refine X.seq ?_
                refine X.regionD (fun _ => False) 9 (by kernel_rfl) (by kernel_rfl) (fun w12 hk12 hz12 => ?_)
                refine X.dTake 0 rfl (by kernel_rfl) (by kernel_rfl) (by kernel_rfl) (X.dwN rfl) (fun w' hk' => X.move (v := .slice _ _ _) rfl) ?_
                refine X.dTake 1 rfl (by kernel_rfl) (by kernel_rfl) (by kernel_rfl) (X.dwN rfl) (fun w' hk' => X.move (v := .int .i64 _) rfl) ?_
                refine X.dTake 2 rfl (by kernel_rfl) (by kernel_rfl) (by kernel_rfl) (X.dwN rfl) (fun w' hk' => X.idxS ((mine_0 KPk_flat hkM 0 (fun _ _ => Nat.zero_le _)).keep (((hka.trans hkb).trans hk12).trans hk')) Try.underlying28 Try.sizeOf30 rfl rfl ⟨by omega, by omega⟩) ?_
                refine X.dTake 3 rfl (by kernel_rfl) (by kernel_rfl) (by kernel_rfl) (X.dwN rfl) (fun w' hk' => X.loadSN Try.isAgg30 Try.sizeOf30 ((mine_0 KPk_flat hkM 0 (fun _ _ => Nat.zero_le _)).keep (((hka.trans hkb).trans hk12).trans hk')) hya rfl (fun _ h => h.1) rfl) ?_
                refine X.dTake 4 rfl (by kernel_rfl) (by kernel_rfl) (by kernel_rfl) (X.dwN rfl) (fun w' hk' => X.move (v := .slice _ _ _) rfl) ?_
                refine X.dTake 5 rfl (by kernel_rfl) (by kernel_rfl) (by kernel_rfl) (X.dwN rfl) (fun w' hk' => X.move (v := .int .i64 _) rfl) ?_
                refine X.dTake 6 rfl (by kernel_rfl) (by kernel_rfl) (by kernel_rfl) (X.dwN rfl) (fun w' hk' => X.idxS ((mine_0 KPk_flat hkM 0 (fun _ _ => Nat.zero_le _)).keep (((hka.trans hkb).trans hk12).trans hk')) Try.underlying28 Try.sizeOf30 rfl rfl ⟨by omega, by omega⟩) ?_
                refine X.dTake 7 rfl (by kernel_rfl) (by kernel_rfl) (by kernel_rfl) (X.dwN rfl) (fun w' hk' => X.loadSN Try.isAgg30 Try.sizeOf30 ((mine_0 KPk_flat hkM 0 (fun _ _ => Nat.zero_le _)).keep (((hka.trans hkb).trans hk12).trans hk')) hyb rfl (fun _ h => h.1) rfl) ?_
                refine X.dTake 8 rfl (by kernel_rfl) (by kernel_rfl) (by kernel_rfl) (X.dwN rfl) (fun w' hk' => X.eqA eqPk_guard rfl rfl (eqPk ya yb _)) ?_
                refine X.dEnd (by kernel_rfl) ?_
                refine X.condB rfl (fun hc => ?_) (fun hc => ?_)
                · exact absurd (by simpa using hc) (nodup_ne (CaIn.nd (((hC6.keep ((hk7.trans hk8).trans hk9)).ext hx10 (by first | (intros; (try simp only []); omega) | exact fun k h e => by (have := hTl k h; have e2 : k = _ := e; omega) | exact fun h => by (have := hTl _ h; omega) | exact fun k h1 h2 h3 => (hTT k h3).2 (hrT k h1 h2) | exact fun k h1 h2 h3 => (hTT2 k h3).2.1 (hrT k h1 h2) | exact fun k _ h1 h2 => by (have := (hTT k h2).1; omega) | exact fun k _ h1 h2 => by (have := (hTT2 k h2).1; omega) | exact fun k h1 h2 => h1.elim (fun h => by (have := hTl k h; have h2 : _ ≤ k := h2; omega)) (fun h => by (have h2 : _ ≤ k := h2; omega)) | exact fun k h1 h2 => (hTT2 k h2).2.2 h1)).keep (((hk11.trans hka).trans hkb).trans hk12))) hya hyb (by omega))
                · refine X.skip ?_
                  refine X.inBlock ?_
                  refine X.region ?_
                  refine X.opw X.wN rfl (X.move (v := .int .i64 _) rfl) ?_
                  refine X.opw X.wN rfl (X.add rfl rfl (X.w_i64 (by omega))) ?_
                  refine X.opw X.wN rfl (X.assign (v := .int .i64 _) rfl) ?_
                  refine X.opsEnd ?_
                  refine hback5 (b + 1) _ _ ⟨rfl, rfl, rfl, rfl, rfl, rfl, rfl, rfl, trivial⟩ ⟨by omega, (hkb.trans hk12)⟩ (by omega)
              · refine X.opsEnd ?_
                refine X.condF rfl ?_
                refine X.exit rfl ?_
                refine X.inBlock ?_
                refine X.region ?_
                refine X.opw X.wN rfl (X.move (v := .int .i64 _) rfl) ?_
                refine X.opw X.wN rfl (X.add rfl rfl (X.w_i64 (by omega))) ?_
                refine X.opw X.wN rfl (X.assign (v := .int .i64 _) rfl) ?_
                refine X.opsEnd ?_
                refine hback3 (a + 1) _ _ ⟨rfl, rfl, rfl, rfl, rfl, rfl, rfl, trivial⟩ ⟨by omega, (hka.trans hkb)⟩ (by omega)
            · refine X.opsEnd ?_
              refine X.condF rfl ?_
              refine X.exit rfl ?_
              refine X.inBlock ?_
              refine X.region ?_
              refine X.opw X.wN rfl (X.move (v := .int .i64 _) rfl) ?_
              refine X.opw X.wN rfl (X.add rfl rfl (X.w_i64 (by omega))) ?_
              refine X.opw X.wN rfl (X.assign (v := .int .i64 _) rfl) ?_
              refine X.opsEnd ?_
              have hlp : Lps (fun k => TB k ∨ (w6.heap.size ≤ k ∧ k < wa.heap.size)) wa (((x.2.1, Ac, o.2.2.length, cc) : HL) :: hs) ((x.2.1, o.2.2) :: ps) := ((((((((((hps.keep hk3).ext hx4 (fun k h1 h2 => by have := hTB k h1; first | (have h2 : k = _ := h2; omega) | (have h2 : w8.heap.size ≤ k := h2; omega))).keep hk5).ext hx6 (fun k h1 h2 => (hTT k h2).2 h1)).keep hk7).keep hk8).keep hk9).ext hx10 (fun k h1 h2 => by have := hTB k h1; first | (have h2 : k = _ := h2; omega) | (have h2 : w8.heap.size ≤ k := h2; omega))).keep hk11).keep hka).cons (fun k h => .inl h) rfl (fun k h1 h2 => .inr ⟨by omega, by omega⟩) (((hsc.keep hk9).ext hx10 (by first | (intros; (try simp only []); omega) | exact fun k h e => by (have := hTl k h; have e2 : k = _ := e; omega) | exact fun h => by (have := hTl _ h; omega) | exact fun k h1 h2 h3 => (hTT k h3).2 (hrT k h1 h2) | exact fun k h1 h2 h3 => (hTT2 k h3).2.1 (hrT k h1 h2) | exact fun k _ h1 h2 => by (have := (hTT k h2).1; omega) | exact fun k _ h1 h2 => by (have := (hTT2 k h2).1; omega) | exact fun k h1 h2 => h1.elim (fun h => by (have := hTl k h; have h2 : _ ≤ k := h2; omega)) (fun h => by (have h2 : _ ≤ k := h2; omega)) | exact fun k h1 h2 => (hTT2 k h2).2.2 h1)).keep (hk11.trans hka))
              refine hback (i + 1, A9, (((x.2.1, Ac, o.2.2.length, cc) : HL) :: hs).length, c9) _ _ ⟨rfl, rfl, rfl, rfl, rfl, trivial⟩ ⟨by dsimp only; omega, by dsimp only; omega, _, _, (fun k => TB k ∨ (w6.heap.size ≤ k ∧ k < wa.heap.size)), _, _, w6.heap.size, wa.heap.size, (((hC6.keep ((hk7.trans hk8).trans hk9)).ext hx10 (by first | (intros; (try simp only []); omega) | exact fun k h e => by (have := hTl k h; have e2 : k = _ := e; omega) | exact fun h => by (have := hTl _ h; omega) | exact fun k h1 h2 h3 => (hTT k h3).2 (hrT k h1 h2) | exact fun k h1 h2 h3 => (hTT2 k h3).2.1 (hrT k h1 h2) | exact fun k _ h1 h2 => by (have := (hTT k h2).1; omega) | exact fun k _ h1 h2 => by (have := (hTT2 k h2).1; omega) | exact fun k h1 h2 => h1.elim (fun h => by (have := hTl k h; have h2 : _ ≤ k := h2; omega)) (fun h => by (have h2 : _ ≤ k := h2; omega)) | exact fun k h1 h2 => (hTT2 k h2).2.2 h1)).keep (hk11.trans hka)), hR2, (mine_0 KHd_flat (hM10.keep (hk11.trans hka)) w6.heap.size (fun k h => Nat.le_trans (by omega) h)), fun k h1 h2 => .inr ⟨h1, h2⟩, Nat.le_refl _, hlp, by dsimp only; rw [List.length_cons]; omega, fun k h => h.elim (fun h => ⟨(hTT k h).1, fun q => q.elim (hTT k h).2 (fun q => by have := hTl k h; omega)⟩) (fun h => ⟨by omega, fun q => q.elim (fun q => by have := hTB k q; omega) (fun q => by omega)⟩), fun k h => h.elim (fun h => ⟨(hTB k h).1, by have := (hTB k h).2; omega⟩) (fun h => ⟨by omega, h.2⟩), hc9, ((((((((((hk.trans hk3).step hx4 (by first | (intros; (try simp only [] at *); omega) | exact fun k h => (hTT k h).1 | exact fun k h => (hTT2 k h).1)).trans hk5).step hx6 (by first | (intros; (try simp only [] at *); omega) | exact fun k h => (hTT k h).1 | exact fun k h => (hTT2 k h).1)).trans hk7).trans hk8).trans hk9).step hx10 (by first | (intros; (try simp only [] at *); omega) | exact fun k h => (hTT k h).1 | exact fun k h => (hTT2 k h).1)).trans hk11).trans hka)⟩ (by dsimp only; omega)
        · refine X.opw X.wN rfl (X.assign (v := .bool false) rfl) ?_
          refine X.opsEnd ?_
          refine X.condF rfl ?_
          refine X.seq ?_
          refine X.region ?_
          refine X.opP X.wN rfl rfl (X.eqI rfl rfl) (fun h75 => ?_) (fun h75 => ?_)
          · refine X.opw X.wN rfl (X.assign (v := .bool true) rfl) ?_
            refine X.opsEnd ?_
            refine X.condT rfl ?_
            refine X.region ?_
            refine X.opw X.wN rfl (X.move rfl) ?_
            refine X.opw X.wN rfl (X.fldB (j := 1) Try.underlying44 rfl rfl Try.sizeOf30 rfl) ?_
            refine X.opw X.wN rfl (X.fldB (j := 1) Try.underlying30 rfl rfl Try.sizeOf9 rfl) ?_
            refine X.opw X.wN rfl (X.load1B Try.isAgg9 (hB4.keep hk5) rfl rfl) ?_
            refine X.opE X.wN rfl (X.callE (Drop_c x.2.1.1 _ (hC.keep ((hk3.step hx4 (by first | (intros; (try simp only [] at *); omega) | exact fun k h => (hTT k h).1 | exact fun k h => (hTT2 k h).1)).trans hk5)) (by omega)) Try.call21 rfl rfl) ?_
            rintro _ w13 ⟨rfl, hC13, hx13⟩
            have hx13' := hx13.size
            refine X.opsEnd ?_
            refine X.inBlock ?_
            refine X.seq ?_
            refine X.region ?_
            refine X.opw X.wN rfl (X.move rfl) ?_
            have hR2 := ((hR.drop x.2.1.1).up (Nat.le_succ _))
            have hR2l := hR2.len
            refine X.opE X.wN rfl (X.callE (Keys_c _ hC13 (by omega)) Try.call13 rfl rfl) ?_
            rintro _ w14 ⟨kA, kc, rfl, hkc, hkM, hk14⟩
            have hk14' := hk14.size
            refine X.opw X.wN rfl (X.assign (v := .slice _ _ _) rfl) ?_
            refine X.opsEnd ?_
            refine X.seq ?_
            refine X.seq ?_
            refine X.region ?_
            refine X.opw X.wN rfl (X.move (v := .slice _ _ _) rfl) ?_
            refine X.opw X.wN rfl (X.lenSl Try.underlying28 rfl) ?_
            refine X.opw X.wN rfl (X.move (v := .int .i64 _) rfl) ?_
            refine X.opP X.wN rfl rfl (X.gtr rfl rfl) (fun h86 => ?_) (fun h86 => ?_)
            · exfalso
              rw [List.length_map] at h86
              omega
            · refine X.opsEnd ?_
              refine X.condF rfl ?_
              refine X.skip ?_
              refine X.seq ?_
              refine X.region ?_
              refine X.opw X.wN rfl (X.assign rfl) ?_
              refine X.opsEnd ?_
              refine X.block ?_
              -- LOOP live: 1=ops, 5=n, 6=c, 8=last, 9=i, 11=k, 12=a*
              refine X.loopL (σ := Nat) (fun s => [(1, .slice A n c), (5, .int .i64 (r : Int)), (6, ptrV bc), (8, .slice A8 n8 c8), (9, .int .i64 (i : Int)), (11, .slice kA ((cs.drop x.2.1.1).L.map (·.1)).length kc), (12, .int .i64 (s : Int))]) (fun s w' => s ≤ ((cs.drop x.2.1.1).L.map (·.1)).length ∧ Keep w14 w') (fun s => ((cs.drop x.2.1.1).L.map (·.1)).length - s) 0 ⟨rfl, rfl, rfl, rfl, rfl, rfl, rfl, trivial⟩ ⟨Nat.zero_le _, Keep.refl _⟩ ?_
              rintro a ba wa ⟨ha, hka⟩ hback3
              have hka' := hka.size
              refine X.seq ?_
              refine X.seq ?_
              refine X.region ?_
              refine X.opw X.wN rfl (X.move (v := .int .i64 _) rfl) ?_
              refine X.opw X.wN rfl (X.move (v := .slice _ _ _) rfl) ?_
              refine X.opw X.wN rfl (X.lenSl Try.underlying28 rfl) ?_
              refine X.opP X.wN rfl rfl (X.lss rfl rfl) (fun h90 => ?_) (fun h90 => ?_)
              · refine X.opsEnd ?_
                refine X.condT rfl ?_
                refine X.skip ?_
                refine X.seq ?_
                refine X.block ?_
                refine X.seq ?_
                refine X.region ?_
                refine X.opw X.wN rfl (X.assign rfl) ?_
                refine X.opsEnd ?_
                refine X.block ?_
                -- LOOP live: 1=ops, 5=n, 6=c, 8=last, 9=i, 11=k, 12=a, 13=b*
                refine X.loopL (σ := Nat) (fun s => [(1, .slice A n c), (5, .int .i64 (r : Int)), (6, ptrV bc), (8, .slice A8 n8 c8), (9, .int .i64 (i : Int)), (11, .slice kA ((cs.drop x.2.1.1).L.map (·.1)).length kc), (12, .int .i64 (a : Int)), (13, .int .i64 (s : Int))]) (fun s w' => s ≤ a ∧ Keep wa w') (fun s => a - s) 0 ⟨rfl, rfl, rfl, rfl, rfl, rfl, rfl, rfl, trivial⟩ ⟨Nat.zero_le _, Keep.refl _⟩ ?_
                rintro b bb wb ⟨hb, hkb⟩ hback5
                have hkb' := hkb.size
                refine X.seq ?_
                refine X.seq ?_
                refine X.region ?_
                refine X.opw X.wN rfl (X.move (v := .int .i64 _) rfl) ?_
                refine X.opw X.wN rfl (X.move (v := .int .i64 _) rfl) ?_
                refine X.opP X.wN rfl rfl (X.lss rfl rfl) (fun h95 => ?_) (fun h95 => ?_)
                · obtain ⟨ya, hya⟩ := getL (l := (cs.drop x.2.1.1).L.map (·.1)) a rfl (by omega)
                  obtain ⟨yb, hyb⟩ := getL (l := (cs.drop x.2.1.1).L.map (·.1)) b rfl (by omega)
                  refine X.opsEnd ?_
                  refine X.condT rfl ?_
                  refine X.skip ?_
                  refine X.seq ?_
                  refine X.block ?_
                  refine X.seq ?_
                  refine X.regionD (fun _ => False) 9 (by kernel_rfl) (by kernel_rfl) (fun w15 hk15 hz15 => ?_)
                  refine X.dTake 0 rfl (by kernel_rfl) (by kernel_rfl) (by kernel_rfl) (X.dwN rfl) (fun w' hk' => X.move (v := .slice _ _ _) rfl) ?_
                  refine X.dTake 1 rfl (by kernel_rfl) (by kernel_rfl) (by kernel_rfl) (X.dwN rfl) (fun w' hk' => X.move (v := .int .i64 _) rfl) ?_
                  refine X.dTake 2 rfl (by kernel_rfl) (by kernel_rfl) (by kernel_rfl) (X.dwN rfl) (fun w' hk' => X.idxS ((mine_0 KPk_flat hkM 0 (fun _ _ => Nat.zero_le _)).keep (((hka.trans hkb).trans hk15).trans hk')) Try.underlying28 Try.sizeOf30 rfl rfl ⟨by omega, by omega⟩) ?_
                  refine X.dTake 3 rfl (by kernel_rfl) (by kernel_rfl) (by kernel_rfl) (X.dwN rfl) (fun w' hk' => X.loadSN Try.isAgg30 Try.sizeOf30 ((mine_0 KPk_flat hkM 0 (fun _ _ => Nat.zero_le _)).keep (((hka.trans hkb).trans hk15).trans hk')) hya rfl (fun _ h => h.1) rfl) ?_
                  refine X.dTake 4 rfl (by kernel_rfl) (by kernel_rfl) (by kernel_rfl) (X.dwN rfl) (fun w' hk' => X.move (v := .slice _ _ _) rfl) ?_
                  refine X.dTake 5 rfl (by kernel_rfl) (by kernel_rfl) (by kernel_rfl) (X.dwN rfl) (fun w' hk' => X.move (v := .int .i64 _) rfl) ?_
                  refine X.dTake 6 rfl (by kernel_rfl) (by kernel_rfl) (by kernel_rfl) (X.dwN rfl) (fun w' hk' => X.idxS ((mine_0 KPk_flat hkM 0 (fun _ _ => Nat.zero_le _)).keep (((hka.trans hkb).trans hk15).trans hk')) Try.underlying28 Try.sizeOf30 rfl rfl ⟨by omega, by omega⟩) ?_
                  refine X.dTake 7 rfl (by kernel_rfl) (by kernel_rfl) (by kernel_rfl) (X.dwN rfl) (fun w' hk' => X.loadSN Try.isAgg30 Try.sizeOf30 ((mine_0 KPk_flat hkM 0 (fun _ _ => Nat.zero_le _)).keep (((hka.trans hkb).trans hk15).trans hk')) hyb rfl (fun _ h => h.1) rfl) ?_
                  refine X.dTake 8 rfl (by kernel_rfl) (by kernel_rfl) (by kernel_rfl) (X.dwN rfl) (fun w' hk' => X.eqA eqPk_guard rfl rfl (eqPk ya yb _)) ?_
                  refine X.dEnd (by kernel_rfl) ?_
                  refine X.condB rfl (fun hc => ?_) (fun hc => ?_)
                  · exact absurd (by simpa using hc) (nodup_ne (CaIn.nd (hC13.keep (((hk14.trans hka).trans hkb).trans hk15))) hya hyb (by omega))
                  · refine X.skip ?_
                    refine X.inBlock ?_
                    refine X.region ?_
                    refine X.opw X.wN rfl (X.move (v := .int .i64 _) rfl) ?_
                    refine X.opw X.wN rfl (X.add rfl rfl (X.w_i64 (by omega))) ?_
                    refine X.opw X.wN rfl (X.assign (v := .int .i64 _) rfl) ?_
                    refine X.opsEnd ?_
                    refine hback5 (b + 1) _ _ ⟨rfl, rfl, rfl, rfl, rfl, rfl, rfl, rfl, trivial⟩ ⟨by omega, (hkb.trans hk15)⟩ (by omega)
                · refine X.opsEnd ?_
                  refine X.condF rfl ?_
                  refine X.exit rfl ?_
                  refine X.inBlock ?_
                  refine X.region ?_
                  refine X.opw X.wN rfl (X.move (v := .int .i64 _) rfl) ?_
                  refine X.opw X.wN rfl (X.add rfl rfl (X.w_i64 (by omega))) ?_
                  refine X.opw X.wN rfl (X.assign (v := .int .i64 _) rfl) ?_
                  refine X.opsEnd ?_
                  refine hback3 (a + 1) _ _ ⟨rfl, rfl, rfl, rfl, rfl, rfl, rfl, trivial⟩ ⟨by omega, (hka.trans hkb)⟩ (by omega)
              · refine X.opsEnd ?_
                refine X.condF rfl ?_
                refine X.exit rfl ?_
                refine X.inBlock ?_
                refine X.region ?_
                refine X.opw X.wN rfl (X.move (v := .int .i64 _) rfl) ?_
                refine X.opw X.wN rfl (X.add rfl rfl (X.w_i64 (by omega))) ?_
                refine X.opw X.wN rfl (X.assign (v := .int .i64 _) rfl) ?_
                refine X.opsEnd ?_
                refine hback (i + 1, A8, n8, c8) _ _ ⟨rfl, rfl, rfl, rfl, rfl, trivial⟩ ⟨by dsimp only; omega, by dsimp only; omega, _, _, TB, ps, hs, lo, hi, (hC13.keep (hk14.trans hka)), hR2, (((hsr.keep ((hk3.step hx4 (by first | (intros; (try simp only [] at *); omega) | exact fun k h => (hTT k h).1 | exact fun k h => (hTT2 k h).1)).trans hk5)).ext hx13 (by first | (intros; (try simp only []); omega) | exact fun k h e => by (have := hTl k h; have e2 : k = _ := e; omega) | exact fun h => by (have := hTl _ h; omega) | exact fun k h1 h2 h3 => (hTT k h3).2 (hrT k h1 h2) | exact fun k h1 h2 h3 => (hTT2 k h3).2.1 (hrT k h1 h2) | exact fun k _ h1 h2 => by (have := (hTT k h2).1; omega) | exact fun k _ h1 h2 => by (have := (hTT2 k h2).1; omega) | exact fun k h1 h2 => h1.elim (fun h => by (have := hTl k h; have h2 : _ ≤ k := h2; omega)) (fun h => by (have h2 : _ ≤ k := h2; omega)) | exact fun k h1 h2 => (hTT2 k h2).2.2 h1)).keep (hk14.trans hka)), hrT, by omega, ((((((hps.keep hk3).ext hx4 (fun k h1 h2 => by have := hTB k h1; first | (have h2 : k = _ := h2; omega) | (have h2 : w8.heap.size ≤ k := h2; omega))).keep hk5).ext hx13 (fun k h1 h2 => (hTT k h2).2 h1)).keep hk14).keep hka), by dsimp only; omega, hTT, fun k h => ⟨(hTB k h).1, by have := (hTB k h).2; omega⟩, hc8, ((((((hk.trans hk3).step hx4 (by first | (intros; (try simp only [] at *); omega) | exact fun k h => (hTT k h).1 | exact fun k h => (hTT2 k h).1)).trans hk5).step hx13 (by first | (intros; (try simp only [] at *); omega) | exact fun k h => (hTT k h).1 | exact fun k h => (hTT2 k h).1)).trans hk14).trans hka)⟩ (by dsimp only; omega)
          · refine X.opw X.wN rfl (X.assign (v := .bool false) rfl) ?_
            refine X.opsEnd ?_
            refine X.condF rfl ?_
            refine X.region ?_
            refine X.opw X.wN rfl (X.move rfl) ?_
            refine X.opw X.wN rfl (X.fldB (j := 1) Try.underlying44 rfl rfl Try.sizeOf30 rfl) ?_
            refine X.opw X.wN rfl (X.loadNB Try.isAgg30 Try.sizeOf30 (hB4.keep hk5) rfl rfl rfl) ?_
            refine X.opE X.wN rfl (X.callE (Get_c x.2.1 _ (hC.keep ((hk3.step hx4 (by first | (intros; (try simp only [] at *); omega) | exact fun k h => (hTT k h).1 | exact fun k h => (hTT2 k h).1)).trans hk5)) (by omega) (by omega) (by omega)) Try.call22 rfl rfl) ?_
            rintro _ w16 ⟨ga, gb, hga, hgb, hgw, _, hC16, hx16⟩
            have hx16' := hx16.size
            refine X.opsEnd ?_
            refine X.inBlock ?_
            refine X.seq ?_
            refine X.region ?_
            refine X.opw X.wN rfl (X.move rfl) ?_
            have hR2 := (hR.get x.2.1)
            have hR2l := hR2.len
            refine X.opE X.wN rfl (X.callE (Keys_c _ hC16 (by omega)) Try.call13 rfl rfl) ?_
            rintro _ w17 ⟨kA, kc, rfl, hkc, hkM, hk17⟩
            have hk17' := hk17.size
            refine X.opw X.wN rfl (X.assign (v := .slice _ _ _) rfl) ?_
            refine X.opsEnd ?_
            refine X.seq ?_
            refine X.seq ?_
            refine X.region ?_
            refine X.opw X.wN rfl (X.move (v := .slice _ _ _) rfl) ?_
            refine X.opw X.wN rfl (X.lenSl Try.underlying28 rfl) ?_
            refine X.opw X.wN rfl (X.move (v := .int .i64 _) rfl) ?_
            refine X.opP X.wN rfl rfl (X.gtr rfl rfl) (fun h86 => ?_) (fun h86 => ?_)
            · exfalso
              rw [List.length_map] at h86
              omega
            · refine X.opsEnd ?_
              refine X.condF rfl ?_
              refine X.skip ?_
              refine X.seq ?_
              refine X.region ?_
              refine X.opw X.wN rfl (X.assign rfl) ?_
              refine X.opsEnd ?_
              refine X.block ?_
              -- LOOP live: 1=ops, 5=n, 6=c, 8=last, 9=i, 11=k, 12=a*
              refine X.loopL (σ := Nat) (fun s => [(1, .slice A n c), (5, .int .i64 (r : Int)), (6, ptrV bc), (8, .slice A8 n8 c8), (9, .int .i64 (i : Int)), (11, .slice kA ((cs.get x.2.1).L.map (·.1)).length kc), (12, .int .i64 (s : Int))]) (fun s w' => s ≤ ((cs.get x.2.1).L.map (·.1)).length ∧ Keep w17 w') (fun s => ((cs.get x.2.1).L.map (·.1)).length - s) 0 ⟨rfl, rfl, rfl, rfl, rfl, rfl, rfl, trivial⟩ ⟨Nat.zero_le _, Keep.refl _⟩ ?_
              rintro a ba wa ⟨ha, hka⟩ hback3
              have hka' := hka.size
              refine X.seq ?_
              refine X.seq ?_
              refine X.region ?_
              refine X.opw X.wN rfl (X.move (v := .int .i64 _) rfl) ?_
              refine X.opw X.wN rfl (X.move (v := .slice _ _ _) rfl) ?_
              refine X.opw X.wN rfl (X.lenSl Try.underlying28 rfl) ?_
              refine X.opP X.wN rfl rfl (X.lss rfl rfl) (fun h90 => ?_) (fun h90 => ?_)
              · refine X.opsEnd ?_
                refine X.condT rfl ?_
                refine X.skip ?_
                refine X.seq ?_
                refine X.block ?_
                refine X.seq ?_
                refine X.region ?_
                refine X.opw X.wN rfl (X.assign rfl) ?_
                refine X.opsEnd ?_
                refine X.block ?_
                -- LOOP live: 1=ops, 5=n, 6=c, 8=last, 9=i, 11=k, 12=a, 13=b*
                refine X.loopL (σ := Nat) (fun s => [(1, .slice A n c), (5, .int .i64 (r : Int)), (6, ptrV bc), (8, .slice A8 n8 c8), (9, .int .i64 (i : Int)), (11, .slice kA ((cs.get x.2.1).L.map (·.1)).length kc), (12, .int .i64 (a : Int)), (13, .int .i64 (s : Int))]) (fun s w' => s ≤ a ∧ Keep wa w') (fun s => a - s) 0 ⟨rfl, rfl, rfl, rfl, rfl, rfl, rfl, rfl, trivial⟩ ⟨Nat.zero_le _, Keep.refl _⟩ ?_
                rintro b bb wb ⟨hb, hkb⟩ hback5
                have hkb' := hkb.size
                refine X.seq ?_
                refine X.seq ?_
                refine X.region ?_
                refine X.opw X.wN rfl (X.move (v := .int .i64 _) rfl) ?_
                refine X.opw X.wN rfl (X.move (v := .int .i64 _) rfl) ?_
                refine X.opP X.wN rfl rfl (X.lss rfl rfl) (fun h95 => ?_) (fun h95 => ?_)
                · obtain ⟨ya, hya⟩ := getL (l := (cs.get x.2.1).L.map (·.1)) a rfl (by omega)
                  obtain ⟨yb, hyb⟩ := getL (l := (cs.get x.2.1).L.map (·.1)) b rfl (by omega)
                  refine X.opsEnd ?_
                  refine X.condT rfl ?_
                  refine X.skip ?_
                  refine X.seq ?_
                  refine X.block ?_
                  refine X.seq ?_
                  refine X.regionD (fun _ => False) 9 (by kernel_rfl) (by kernel_rfl) (fun w18 hk18 hz18 => ?_)
                  refine X.dTake 0 rfl (by kernel_rfl) (by kernel_rfl) (by kernel_rfl) (X.dwN rfl) (fun w' hk' => X.move (v := .slice _ _ _) rfl) ?_
                  refine X.dTake 1 rfl (by kernel_rfl) (by kernel_rfl) (by kernel_rfl) (X.dwN rfl) (fun w' hk' => X.move (v := .int .i64 _) rfl) ?_
                  refine X.dTake 2 rfl (by kernel_rfl) (by kernel_rfl) (by kernel_rfl) (X.dwN rfl) (fun w' hk' => X.idxS ((mine_0 KPk_flat hkM 0 (fun _ _ => Nat.zero_le _)).keep (((hka.trans hkb).trans hk18).trans hk')) Try.underlying28 Try.sizeOf30 rfl rfl ⟨by omega, by omega⟩) ?_
                  refine X.dTake 3 rfl (by kernel_rfl) (by kernel_rfl) (by kernel_rfl) (X.dwN rfl) (fun w' hk' => X.loadSN Try.isAgg30 Try.sizeOf30 ((mine_0 KPk_flat hkM 0 (fun _ _ => Nat.zero_le _)).keep (((hka.trans hkb).trans hk18).trans hk')) hya rfl (fun _ h => h.1) rfl) ?_
                  refine X.dTake 4 rfl (by kernel_rfl) (by kernel_rfl) (by kernel_rfl) (X.dwN rfl) (fun w' hk' => X.move (v := .slice _ _ _) rfl) ?_
                  refine X.dTake 5 rfl (by kernel_rfl) (by kernel_rfl) (by kernel_rfl) (X.dwN rfl) (fun w' hk' => X.move (v := .int .i64 _) rfl) ?_
                  refine X.dTake 6 rfl (by kernel_rfl) (by kernel_rfl) (by kernel_rfl) (X.dwN rfl) (fun w' hk' => X.idxS ((mine_0 KPk_flat hkM 0 (fun _ _ => Nat.zero_le _)).keep (((hka.trans hkb).trans hk18).trans hk')) Try.underlying28 Try.sizeOf30 rfl rfl ⟨by omega, by omega⟩) ?_
                  refine X.dTake 7 rfl (by kernel_rfl) (by kernel_rfl) (by kernel_rfl) (X.dwN rfl) (fun w' hk' => X.loadSN Try.isAgg30 Try.sizeOf30 ((mine_0 KPk_flat hkM 0 (fun _ _ => Nat.zero_le _)).keep (((hka.trans hkb).trans hk18).trans hk')) hyb rfl (fun _ h => h.1) rfl) ?_
                  refine X.dTake 8 rfl (by kernel_rfl) (by kernel_rfl) (by kernel_rfl) (X.dwN rfl) (fun w' hk' => X.eqA eqPk_guard rfl rfl (eqPk ya yb _)) ?_
                  refine X.dEnd (by kernel_rfl) ?_
                  refine X.condB rfl (fun hc => ?_) (fun hc => ?_)
                  · exact absurd (by simpa using hc) (nodup_ne (CaIn.nd (hC16.keep (((hk17.trans hka).trans hkb).trans hk18))) hya hyb (by omega))
                  · refine X.skip ?_
                    refine X.inBlock ?_
                    refine X.region ?_
                    refine X.opw X.wN rfl (X.move (v := .int .i64 _) rfl) ?_
                    refine X.opw X.wN rfl (X.add rfl rfl (X.w_i64 (by omega))) ?_
                    refine X.opw X.wN rfl (X.assign (v := .int .i64 _) rfl) ?_
                    refine X.opsEnd ?_
                    refine hback5 (b + 1) _ _ ⟨rfl, rfl, rfl, rfl, rfl, rfl, rfl, rfl, trivial⟩ ⟨by omega, (hkb.trans hk18)⟩ (by omega)
                · refine X.opsEnd ?_
                  refine X.condF rfl ?_
                  refine X.exit rfl ?_
                  refine X.inBlock ?_
                  refine X.region ?_
                  refine X.opw X.wN rfl (X.move (v := .int .i64 _) rfl) ?_
                  refine X.opw X.wN rfl (X.add rfl rfl (X.w_i64 (by omega))) ?_
                  refine X.opw X.wN rfl (X.assign (v := .int .i64 _) rfl) ?_
                  refine X.opsEnd ?_
                  refine hback3 (a + 1) _ _ ⟨rfl, rfl, rfl, rfl, rfl, rfl, rfl, trivial⟩ ⟨by omega, (hka.trans hkb)⟩ (by omega)
              · refine X.opsEnd ?_
                refine X.condF rfl ?_
                refine X.exit rfl ?_
                refine X.inBlock ?_
                refine X.region ?_
                refine X.opw X.wN rfl (X.move (v := .int .i64 _) rfl) ?_
                refine X.opw X.wN rfl (X.add rfl rfl (X.w_i64 (by omega))) ?_
                refine X.opw X.wN rfl (X.assign (v := .int .i64 _) rfl) ?_
                refine X.opsEnd ?_
                refine hback (i + 1, A8, n8, c8) _ _ ⟨rfl, rfl, rfl, rfl, rfl, trivial⟩ ⟨by dsimp only; omega, by dsimp only; omega, _, _, TB, ps, hs, lo, hi, (hC16.keep (hk17.trans hka)), hR2, (((hsr.keep ((hk3.step hx4 (by first | (intros; (try simp only [] at *); omega) | exact fun k h => (hTT k h).1 | exact fun k h => (hTT2 k h).1)).trans hk5)).ext hx16 (by first | (intros; (try simp only []); omega) | exact fun k h e => by (have := hTl k h; have e2 : k = _ := e; omega) | exact fun h => by (have := hTl _ h; omega) | exact fun k h1 h2 h3 => (hTT k h3).2 (hrT k h1 h2) | exact fun k h1 h2 h3 => (hTT2 k h3).2.1 (hrT k h1 h2) | exact fun k _ h1 h2 => by (have := (hTT k h2).1; omega) | exact fun k _ h1 h2 => by (have := (hTT2 k h2).1; omega) | exact fun k h1 h2 => h1.elim (fun h => by (have := hTl k h; have h2 : _ ≤ k := h2; omega)) (fun h => by (have h2 : _ ≤ k := h2; omega)) | exact fun k h1 h2 => (hTT2 k h2).2.2 h1)).keep (hk17.trans hka)), hrT, by omega, ((((((hps.keep hk3).ext hx4 (fun k h1 h2 => by have := hTB k h1; first | (have h2 : k = _ := h2; omega) | (have h2 : w8.heap.size ≤ k := h2; omega))).keep hk5).ext hx16 (fun k h1 h2 => (hTT k h2).2 h1)).keep hk17).keep hka), by dsimp only; omega, fun k h => h.elim (hTT k) (fun h => ⟨by omega, fun q => by have := hTB k q; omega⟩), fun k h => ⟨(hTB k h).1, by have := (hTB k h).2; omega⟩, hc8, ((((((hk.trans hk3).step hx4 (by first | (intros; (try simp only [] at *); omega) | exact fun k h => (hTT k h).1 | exact fun k h => (hTT2 k h).1)).trans hk5).step hx16 (by first | (intros; (try simp only [] at *); omega) | exact fun k h => (hTT k h).1 | exact fun k h => (hTT2 k h).1)).trans hk17).trans hka)⟩ (by dsimp only; omega)
    · refine X.opw X.wN rfl (X.pickT (v := .bool false) rfl rfl) ?_
      refine X.opsEnd ?_
      refine X.condF rfl ?_
      refine X.exit rfl ?_
      refine X.seq ?_
      refine X.region ?_
      refine X.opw X.wN rfl (X.move rfl) ?_
      refine X.opE X.wN rfl (X.callE (Keys_c _ hC (by omega)) Try.call13 rfl rfl) ?_
      rintro _ w19 ⟨kA, kc, rfl, hkc, hkM, hk19⟩
      have hk19' := hk19.size
      refine X.opw X.wN rfl (X.assign rfl) ?_
      refine X.opsEnd ?_
      refine X.seq ?_
      refine X.seq ?_
      refine X.region ?_
      refine X.opw X.wN rfl (X.assign rfl) ?_
      refine X.opsEnd ?_
      refine X.block ?_
      -- LOOP live: 6=c, 8=last, 14=k, 15=a*
      have hkl0 := hkM.mono (T := fun k => wl.heap.size ≤ k ∧ k < w19.heap.size) (fun k hk h => ⟨by omega, hk⟩)
      refine X.loopL (σ := Nat) (fun s => [(6, ptrV bc), (8, .slice A8 n8 c8), (14, .slice kA (cs.L.map (·.1)).length kc), (15, .int .i64 (s : Int))]) (fun s w' => s ≤ (cs.L.map (·.1)).length ∧ ∃ c2 TT, CaIn TT w' bc c2 ∧ Rm r c2 ps (60 + s) ∧ (∀ x, x ∈ cs.L.map (·.1) → x ∈ c2.L.map (·.1)) ∧ (∀ k, TT k → w.heap.size ≤ k ∧ ¬ TB k ∧ ¬ (wl.heap.size ≤ k ∧ k < w19.heap.size)) ∧ Sl KHd lo hi w' A8 n8 hs ∧ Lps TB w' hs ps ∧ Mine KPk 30 (fun k => wl.heap.size ≤ k ∧ k < w19.heap.size) 0 0 w' (.slice kA (cs.L.map (·.1)).length kc) (cs.L.map (·.1)) ∧ w19.heap.size ≤ w'.heap.size ∧ Keep w w') (fun s => (cs.L.map (·.1)).length - s) 0 ⟨rfl, rfl, rfl, rfl, trivial⟩ ⟨Nat.zero_le _, cs, TT, (hC.keep hk19), hR.up (by omega), fun x h => h, fun k h => ⟨(hTT k h).1, (hTT k h).2, fun q => by have := hTl k h; omega⟩, (hsr.keep hk19), (hps.keep hk19), hkl0, by omega, (hk.trans hk19)⟩ ?_
      rintro j b7 wm ⟨hj, c2, TT2, hC2, hR2, hin, hTT2, hsr, hps, hkl, hwm, hk2⟩ hback7
      have hk2' := hk2.size
      have hTl2 := hC2.lt
      have hR2l := hR2.len
      have hR2h := hR2.h
      have hR2m := hR2.m
      have hcl : (cs.L.map (·.1)).length = cs.L.length := List.length_map _
      refine X.seq ?_
      refine X.seq ?_
      refine X.region ?_
      refine X.opw X.wN rfl (X.move (v := .int .i64 _) rfl) ?_
      refine X.opw X.wN rfl (X.move (v := .slice _ _ _) rfl) ?_
      refine X.opw X.wN rfl (X.lenSl Try.underlying28 rfl) ?_
      refine X.opP X.wN rfl rfl (X.lss rfl rfl) (fun h112 => ?_) (fun h112 => ?_)
      · obtain ⟨y, hy⟩ := getL (l := cs.L.map (·.1)) j rfl (by omega)
        obtain ⟨⟨y2, py⟩, hy2, e2⟩ := List.mem_map.1 (hin y (List.mem_of_getElem? hy))
        simp only at e2
        have e2 := e2.symm
        subst e2
        have hay := asc_mem hC2.nd hy2
        have hay2 := hR2.new _ hy2
        refine X.opsEnd ?_
        refine X.condT rfl ?_
        refine X.skip ?_
        refine X.seq ?_
        refine X.block ?_
        refine X.seq ?_
        refine X.region ?_
        refine X.opw X.wN rfl (X.move rfl) ?_
        refine X.opw X.wN rfl (X.move (v := .slice _ _ _) rfl) ?_
        refine X.opw X.wN rfl (X.move (v := .int .i64 _) rfl) ?_
        refine X.opw X.wN rfl (X.idxS (mine_0 KPk_flat hkl 0 (fun _ _ => Nat.zero_le _)) Try.underlying28 Try.sizeOf30 rfl rfl ⟨by omega, by omega⟩) ?_
        refine X.opw X.wN rfl (X.loadSN Try.isAgg30 Try.sizeOf30 (mine_0 KPk_flat hkl 0 (fun _ _ => Nat.zero_le _)) hy rfl (fun _ h => h.1) rfl) ?_
        refine X.opE X.wN rfl (X.callE (Get_e y _ hC2 (by omega) (by omega) (by omega) hay rfl) Try.call22 rfl rfl) ?_
        rintro _ w20 ⟨ga, gb, gA, gc, hga, hgb, hgw, rfl, hgs, hC20, hx20⟩
        have hx20' := hx20.size
        refine X.opw X.wN rfl (X.move rfl) ?_
        refine X.opw X.wN rfl (X.extr rfl rfl) ?_
        refine X.opw X.wN rfl (X.extr rfl rfl) ?_
        refine X.opw X.wN rfl (X.assign rfl) ?_
        refine X.opw X.wN rfl (X.assign (v := .bool true) rfl) ?_
        refine X.opsEnd ?_
        refine X.seq ?_
        refine X.region ?_
        refine X.opw X.wN rfl (X.move (v := .bool true) rfl) ?_
        refine X.opw X.wN rfl (X.not_ rfl) ?_
        refine X.opw X.wN rfl (X.move (v := .bool false) rfl) ?_
        refine X.opw (X.wG rfl rfl rfl) rfl (X.move (v := .slice _ _ _) rfl) ?_
        refine X.opw (X.wG rfl rfl rfl) rfl (X.move (v := .slice _ _ _) rfl) ?_
        refine X.opw (X.wG rfl rfl rfl) rfl (X.move (v := .int .i64 _) rfl) ?_
        refine X.opw (X.wG rfl rfl rfl) rfl (X.idxS (mine_0 KPk_flat (hkl.ext hx20 (by intros; omega) (fun k h1 h2 => (hTT2 k h2).2.2 h1)) 0 (fun _ _ => Nat.zero_le _)) Try.underlying28 Try.sizeOf30 rfl rfl ⟨by omega, by omega⟩) ?_
        refine X.opw (X.wG rfl rfl rfl) rfl (X.loadSN Try.isAgg30 Try.sizeOf30 (mine_0 KPk_flat (hkl.ext hx20 (by intros; omega) (fun k h1 h2 => (hTT2 k h2).2.2 h1)) 0 (fun _ _ => Nat.zero_le _)) hy rfl (fun _ h => h.1) rfl) ?_
        refine X.opw (X.wG rfl rfl rfl) rfl (X.move rfl) ?_
        refine X.opE (X.wG rfl rfl rfl) rfl (X.callE (newest_e y _ (hsr.ext hx20 (by first | (intros; (try simp only []); omega) | exact fun k h e => by (have := hTl k h; have e2 : k = _ := e; omega) | exact fun h => by (have := hTl _ h; omega) | exact fun k h1 h2 h3 => (hTT k h3).2 (hrT k h1 h2) | exact fun k h1 h2 h3 => (hTT2 k h3).2.1 (hrT k h1 h2) | exact fun k _ h1 h2 => by (have := (hTT k h2).1; omega) | exact fun k _ h1 h2 => by (have := (hTT2 k h2).1; omega) | exact fun k h1 h2 => h1.elim (fun h => by (have := hTl k h; have h2 : _ ≤ k := h2; omega)) (fun h => by (have h2 : _ ≤ k := h2; omega)) | exact fun k h1 h2 => (hTT2 k h2).2.2 h1)) (hps.ext hx20 (fun k h1 h2 => (hTT2 k h2).2.1 h1)) hgs hay2) Try.call23 rfl rfl) ?_
        rintro _ w21 ⟨rfl, hk21⟩
        have hk21' := hk21.size
        refine X.opw (X.wG rfl rfl rfl) rfl (X.not_ rfl) ?_
        refine X.opw X.wN rfl (X.pickF (v := .bool false) rfl rfl) ?_
        refine X.opsEnd ?_
        refine X.condF rfl ?_
        refine X.skip ?_
        refine X.inBlock ?_
        refine X.region ?_
        refine X.opw X.wN rfl (X.move (v := .int .i64 _) rfl) ?_
        refine X.opw X.wN rfl (X.add rfl rfl (X.w_i64 (by omega))) ?_
        refine X.opw X.wN rfl (X.assign (v := .int .i64 _) rfl) ?_
        refine X.opsEnd ?_
        refine hback7 (j + 1) _ _ ⟨rfl, rfl, rfl, rfl, trivial⟩ ⟨by omega, _, _, (hC20.keep hk21), hR2.get y, fun x hx => get_keys (hin x hx), fun k h => h.elim (hTT2 k) (fun h => ⟨by omega, fun q => by have := hTB k q; omega, by omega⟩), ((hsr.ext hx20 (by first | (intros; (try simp only []); omega) | exact fun k h e => by (have := hTl k h; have e2 : k = _ := e; omega) | exact fun h => by (have := hTl _ h; omega) | exact fun k h1 h2 h3 => (hTT k h3).2 (hrT k h1 h2) | exact fun k h1 h2 h3 => (hTT2 k h3).2.1 (hrT k h1 h2) | exact fun k _ h1 h2 => by (have := (hTT k h2).1; omega) | exact fun k _ h1 h2 => by (have := (hTT2 k h2).1; omega) | exact fun k h1 h2 => h1.elim (fun h => by (have := hTl k h; have h2 : _ ≤ k := h2; omega)) (fun h => by (have h2 : _ ≤ k := h2; omega)) | exact fun k h1 h2 => (hTT2 k h2).2.2 h1)).keep hk21), ((hps.ext hx20 (fun k h1 h2 => (hTT2 k h2).2.1 h1)).keep hk21), ((hkl.ext hx20 (by intros; omega) (fun k h1 h2 => (hTT2 k h2).2.2 h1)).keep hk21), by omega, ((hk2.step hx20 (by first | (intros; (try simp only [] at *); omega) | exact fun k h => (hTT k h).1 | exact fun k h => (hTT2 k h).1)).trans hk21)⟩ (by omega)
      · refine X.opsEnd ?_
        refine X.condF rfl ?_
        refine X.exit rfl ?_
        refine X.seq ?_
        refine X.region ?_
        refine X.opw X.wN rfl (X.assign rfl) ?_
        refine X.opsEnd ?_
        refine X.ret1 (v := (.bool _)) Try.func5 Try.results5 rfl ?_
        exact ⟨rfl, hk2⟩
  · refine X.opw X.wN rfl (X.move (v := .bool false) rfl) ?_
    refine X.opS rfl rfl rfl rfl rfl ?_
    refine X.opS rfl rfl rfl rfl rfl ?_
    refine X.opw X.wN rfl (X.pickF (v := .bool false) rfl rfl) ?_
    refine X.opsEnd ?_
    refine X.condF rfl ?_
    refine X.exit rfl ?_
    refine X.seq ?_
    refine X.region ?_
    refine X.opw X.wN rfl (X.move rfl) ?_
    refine X.opE X.wN rfl (X.callE (Keys_c _ hC (by omega)) Try.call13 rfl rfl) ?_
    rintro _ w22 ⟨kA, kc, rfl, hkc, hkM, hk22⟩
    have hk22' := hk22.size
    refine X.opw X.wN rfl (X.assign rfl) ?_
    refine X.opsEnd ?_
    refine X.seq ?_
    refine X.seq ?_
    refine X.region ?_
    refine X.opw X.wN rfl (X.assign rfl) ?_
    refine X.opsEnd ?_
    refine X.block ?_
    -- LOOP live: 6=c, 8=last, 14=k, 15=a*
    have hkl0 := hkM.mono (T := fun k => wl.heap.size ≤ k ∧ k < w22.heap.size) (fun k hk h => ⟨by omega, hk⟩)
    refine X.loopL (σ := Nat) (fun s => [(6, ptrV bc), (8, .slice A8 n8 c8), (14, .slice kA (cs.L.map (·.1)).length kc), (15, .int .i64 (s : Int))]) (fun s w' => s ≤ (cs.L.map (·.1)).length ∧ ∃ c2 TT, CaIn TT w' bc c2 ∧ Rm r c2 ps (60 + s) ∧ (∀ x, x ∈ cs.L.map (·.1) → x ∈ c2.L.map (·.1)) ∧ (∀ k, TT k → w.heap.size ≤ k ∧ ¬ TB k ∧ ¬ (wl.heap.size ≤ k ∧ k < w22.heap.size)) ∧ Sl KHd lo hi w' A8 n8 hs ∧ Lps TB w' hs ps ∧ Mine KPk 30 (fun k => wl.heap.size ≤ k ∧ k < w22.heap.size) 0 0 w' (.slice kA (cs.L.map (·.1)).length kc) (cs.L.map (·.1)) ∧ w22.heap.size ≤ w'.heap.size ∧ Keep w w') (fun s => (cs.L.map (·.1)).length - s) 0 ⟨rfl, rfl, rfl, rfl, trivial⟩ ⟨Nat.zero_le _, cs, TT, (hC.keep hk22), hR.up (by omega), fun x h => h, fun k h => ⟨(hTT k h).1, (hTT k h).2, fun q => by have := hTl k h; omega⟩, (hsr.keep hk22), (hps.keep hk22), hkl0, by omega, (hk.trans hk22)⟩ ?_
    rintro j b7 wm ⟨hj, c2, TT2, hC2, hR2, hin, hTT2, hsr, hps, hkl, hwm, hk2⟩ hback7
    have hk2' := hk2.size
    have hTl2 := hC2.lt
    have hR2l := hR2.len
    have hR2h := hR2.h
    have hR2m := hR2.m
    have hcl : (cs.L.map (·.1)).length = cs.L.length := List.length_map _
    refine X.seq ?_
    refine X.seq ?_
    refine X.region ?_
    refine X.opw X.wN rfl (X.move (v := .int .i64 _) rfl) ?_
    refine X.opw X.wN rfl (X.move (v := .slice _ _ _) rfl) ?_
    refine X.opw X.wN rfl (X.lenSl Try.underlying28 rfl) ?_
    refine X.opP X.wN rfl rfl (X.lss rfl rfl) (fun h112 => ?_) (fun h112 => ?_)
    · obtain ⟨y, hy⟩ := getL (l := cs.L.map (·.1)) j rfl (by omega)
      obtain ⟨⟨y2, py⟩, hy2, e2⟩ := List.mem_map.1 (hin y (List.mem_of_getElem? hy))
      simp only at e2
      have e2 := e2.symm
      subst e2
      have hay := asc_mem hC2.nd hy2
      have hay2 := hR2.new _ hy2
      refine X.opsEnd ?_
      refine X.condT rfl ?_
      refine X.skip ?_
      refine X.seq ?_
      refine X.block ?_
      refine X.seq ?_
      refine X.region ?_
      refine X.opw X.wN rfl (X.move rfl) ?_
      refine X.opw X.wN rfl (X.move (v := .slice _ _ _) rfl) ?_
      refine X.opw X.wN rfl (X.move (v := .int .i64 _) rfl) ?_
      refine X.opw X.wN rfl (X.idxS (mine_0 KPk_flat hkl 0 (fun _ _ => Nat.zero_le _)) Try.underlying28 Try.sizeOf30 rfl rfl ⟨by omega, by omega⟩) ?_
      refine X.opw X.wN rfl (X.loadSN Try.isAgg30 Try.sizeOf30 (mine_0 KPk_flat hkl 0 (fun _ _ => Nat.zero_le _)) hy rfl (fun _ h => h.1) rfl) ?_
      refine X.opE X.wN rfl (X.callE (Get_e y _ hC2 (by omega) (by omega) (by omega) hay rfl) Try.call22 rfl rfl) ?_
      rintro _ w23 ⟨ga, gb, gA, gc, hga, hgb, hgw, rfl, hgs, hC23, hx23⟩
      have hx23' := hx23.size
      refine X.opw X.wN rfl (X.move rfl) ?_
      refine X.opw X.wN rfl (X.extr rfl rfl) ?_
      refine X.opw X.wN rfl (X.extr rfl rfl) ?_
      refine X.opw X.wN rfl (X.assign rfl) ?_
      refine X.opw X.wN rfl (X.assign (v := .bool true) rfl) ?_
      refine X.opsEnd ?_
      refine X.seq ?_
      refine X.region ?_
      refine X.opw X.wN rfl (X.move (v := .bool true) rfl) ?_
      refine X.opw X.wN rfl (X.not_ rfl) ?_
      refine X.opw X.wN rfl (X.move (v := .bool false) rfl) ?_
      refine X.opw (X.wG rfl rfl rfl) rfl (X.move (v := .slice _ _ _) rfl) ?_
      refine X.opw (X.wG rfl rfl rfl) rfl (X.move (v := .slice _ _ _) rfl) ?_
      refine X.opw (X.wG rfl rfl rfl) rfl (X.move (v := .int .i64 _) rfl) ?_
      refine X.opw (X.wG rfl rfl rfl) rfl (X.idxS (mine_0 KPk_flat (hkl.ext hx23 (by intros; omega) (fun k h1 h2 => (hTT2 k h2).2.2 h1)) 0 (fun _ _ => Nat.zero_le _)) Try.underlying28 Try.sizeOf30 rfl rfl ⟨by omega, by omega⟩) ?_
      refine X.opw (X.wG rfl rfl rfl) rfl (X.loadSN Try.isAgg30 Try.sizeOf30 (mine_0 KPk_flat (hkl.ext hx23 (by intros; omega) (fun k h1 h2 => (hTT2 k h2).2.2 h1)) 0 (fun _ _ => Nat.zero_le _)) hy rfl (fun _ h => h.1) rfl) ?_
      refine X.opw (X.wG rfl rfl rfl) rfl (X.move rfl) ?_
      refine X.opE (X.wG rfl rfl rfl) rfl (X.callE (newest_e y _ (hsr.ext hx23 (by first | (intros; (try simp only []); omega) | exact fun k h e => by (have := hTl k h; have e2 : k = _ := e; omega) | exact fun h => by (have := hTl _ h; omega) | exact fun k h1 h2 h3 => (hTT k h3).2 (hrT k h1 h2) | exact fun k h1 h2 h3 => (hTT2 k h3).2.1 (hrT k h1 h2) | exact fun k _ h1 h2 => by (have := (hTT k h2).1; omega) | exact fun k _ h1 h2 => by (have := (hTT2 k h2).1; omega) | exact fun k h1 h2 => h1.elim (fun h => by (have := hTl k h; have h2 : _ ≤ k := h2; omega)) (fun h => by (have h2 : _ ≤ k := h2; omega)) | exact fun k h1 h2 => (hTT2 k h2).2.2 h1)) (hps.ext hx23 (fun k h1 h2 => (hTT2 k h2).2.1 h1)) hgs hay2) Try.call23 rfl rfl) ?_
      rintro _ w24 ⟨rfl, hk24⟩
      have hk24' := hk24.size
      refine X.opw (X.wG rfl rfl rfl) rfl (X.not_ rfl) ?_
      refine X.opw X.wN rfl (X.pickF (v := .bool false) rfl rfl) ?_
      refine X.opsEnd ?_
      refine X.condF rfl ?_
      refine X.skip ?_
      refine X.inBlock ?_
      refine X.region ?_
      refine X.opw X.wN rfl (X.move (v := .int .i64 _) rfl) ?_
      refine X.opw X.wN rfl (X.add rfl rfl (X.w_i64 (by omega))) ?_
      refine X.opw X.wN rfl (X.assign (v := .int .i64 _) rfl) ?_
      refine X.opsEnd ?_
      refine hback7 (j + 1) _ _ ⟨rfl, rfl, rfl, rfl, trivial⟩ ⟨by omega, _, _, (hC23.keep hk24), hR2.get y, fun x hx => get_keys (hin x hx), fun k h => h.elim (hTT2 k) (fun h => ⟨by omega, fun q => by have := hTB k q; omega, by omega⟩), ((hsr.ext hx23 (by first | (intros; (try simp only []); omega) | exact fun k h e => by (have := hTl k h; have e2 : k = _ := e; omega) | exact fun h => by (have := hTl _ h; omega) | exact fun k h1 h2 h3 => (hTT k h3).2 (hrT k h1 h2) | exact fun k h1 h2 h3 => (hTT2 k h3).2.1 (hrT k h1 h2) | exact fun k _ h1 h2 => by (have := (hTT k h2).1; omega) | exact fun k _ h1 h2 => by (have := (hTT2 k h2).1; omega) | exact fun k h1 h2 => h1.elim (fun h => by (have := hTl k h; have h2 : _ ≤ k := h2; omega)) (fun h => by (have h2 : _ ≤ k := h2; omega)) | exact fun k h1 h2 => (hTT2 k h2).2.2 h1)).keep hk24), ((hps.ext hx23 (fun k h1 h2 => (hTT2 k h2).2.1 h1)).keep hk24), ((hkl.ext hx23 (by intros; omega) (fun k h1 h2 => (hTT2 k h2).2.2 h1)).keep hk24), by omega, ((hk2.step hx23 (by first | (intros; (try simp only [] at *); omega) | exact fun k h => (hTT k h).1 | exact fun k h => (hTT2 k h).1)).trans hk24)⟩ (by omega)
    · refine X.opsEnd ?_
      refine X.condF rfl ?_
      refine X.exit rfl ?_
      refine X.seq ?_
      refine X.region ?_
      refine X.opw X.wN rfl (X.assign rfl) ?_
      refine X.opsEnd ?_
      refine X.ret1 (v := (.bool _)) Try.func5 Try.results5 rfl ?_
      exact ⟨rfl, hk2⟩
end Go.Proofs.Ytjjhddjllpihaaa

namespace Go.Proofs.Ytjjhddjllpihaaa
open Go Go.Proofs.Ytjjhddjllpihaaa.X
set_option linter.unusedVariables false
set_option linter.unusedSimpArgs false
abbrev reL (rm : Int) (A : Option Addr) (n c : Nat) (h ms g : Int) : List Value := [.int .i64 rm, .slice A n c, .int .i64 h, .int .i64 ms, .int .i64 g]
/-- The reference's cache in block rb; TB: the blocks of its row and its pages. -/
def ReIn (TB : Nat → Prop) (w : World) (rb : Nat) (s : Ca) : Prop := ∃ A n c hs lo hi, Blk w rb (reL s.room A n c s.h s.m s.g) 51 ∧ Sl KHd lo hi w A n hs ∧ (∀ k, lo ≤ k → k < hi → TB k) ∧ hi ≤ w.heap.size ∧ n ≤ c ∧ Lps TB w hs s.L ∧ ¬ TB rb ∧ ∀ k, TB k → k < w.heap.size
theorem ReIn.ext {TB U : Nat → Prop} {w w' : World} {rb : Nat} {s : Ca} (h : ReIn TB w rb s) (x : Ext U w w') (hU : ∀ k, TB k → ¬ U k) (hr : ¬ U rb) : ReIn TB w' rb s := by
  obtain ⟨A, n, c, hs, lo, hi, h1, h2, h3, h4, h5, h6, h7, h8⟩ := h
  have := x.size
  exact ⟨A, n, c, hs, lo, hi, h1.ext x hr, h2.ext x (fun k a b => hU k (h3 k a b)), h3, by omega, h5, h6.ext x hU, h7, fun k h => by have := h8 k h; omega⟩
theorem ReIn.keep {TB : Nat → Prop} {w w' : World} {rb : Nat} {s : Ca} (h : ReIn TB w rb s) (x : Keep w w') : ReIn TB w' rb s := h.ext x (fun _ _ h => h) (fun h => h)
theorem Lps.mono {TB TC : Nat → Prop} {w : World} {hs : List HL} {ps : PGS} (h : Lps TB w hs ps) (hT : ∀ k, TB k → TC k) : Lps TC w hs ps :=
  ⟨h.len, fun i a p h1 h2 => let ⟨g1, lo, hi, g2, g3⟩ := h.get i a p h1 h2; ⟨g1, lo, hi, fun k a b => hT k (g2 k a b), g3⟩⟩
theorem Lps.snoc {TB : Nat → Prop} {w : World} {hs : List HL} {ps : PGS} {x : HL} {p : PKEY × List CD} (hl : Lps TB w hs ps) (h1 : x.1 = p.1) {lo hi : Nat} (h2 : ∀ k, lo ≤ k → k < hi → TB k) (h3 : Sl KC lo hi w x.2.1 x.2.2.1 p.2) : Lps TB w (hs ++ [x]) (ps ++ [p]) := by
  refine ⟨by simp [hl.len], fun i a q g1 g2 => ?_⟩
  have hlen := hl.len
  rcases Nat.lt_or_ge i hs.length with hi' | hi'
  · rw [List.getElem?_append_left hi'] at g1
    rw [List.getElem?_append_left (by omega)] at g2
    exact hl.get i a q g1 g2
  · rw [List.getElem?_append_right hi'] at g1
    rw [List.getElem?_append_right (by omega)] at g2
    have e : i - hs.length = 0 := by
      have := (List.getElem?_eq_some_iff.1 g1).1
      simpa using this
    rw [e] at g1
    rw [show i - ps.length = 0 by omega] at g2
    simp at g1 g2
    subst g1 g2
    exact ⟨h1, lo, hi, h2, h3⟩
theorem Lps.take {TB : Nat → Prop} {w : World} {hs : List HL} {ps : PGS} (h : Lps TB w hs ps) (r : Nat) : Lps TB w (hs.take r) (ps.take r) := by
  refine ⟨by rw [List.length_take, List.length_take, h.len], fun i a q g1 g2 => ?_⟩
  rw [List.getElem?_take] at g1 g2
  split at g1
  · rename_i hr
    rw [if_pos hr] at g2
    exact h.get i a q g1 g2
  · cases g1
theorem frl_step {k : PKEY} {q : PKEY × List CD} {L : PGS} {j : Nat} (hx : L[j]? = some q) : (L.take (j + 1)).filter (fun y => decide (y.1 ≠ k)) = (L.take j).filter (fun y => decide (y.1 ≠ k)) ++ if q.1 = k then [] else [q] := by
  rw [take_at hx, List.filter_append]
  by_cases e : q.1 = k
  · rw [if_pos e, List.filter_cons, if_neg (by simpa using e), List.filter_nil]
  · rw [if_neg e, List.filter_cons, if_pos (by simpa using e), List.filter_nil]
theorem EHe : True := trivial
-- f38 "(*pedigree/pedigreeref08.Cache).find" params [39, 30] results [3] -> [(ResultVar.tmp 4)] nfree 0 ntmps
set_option maxHeartbeats 4000000 in
set_option maxRecDepth 100000 in
theorem find_c {TB : Nat → Prop} {rb : Nat} {rm h ms g : Int} {A : Option Addr} {n c lo hi : Nat} {hs : List HL} {L : PGS} (k : PKEY) (w : World) (hB : Blk w rb (reL rm A n c h ms g) 51) (hs0 : Sl KHd lo hi w A n hs) (hps : Lps TB w hs L) : Ret Try.prog 38 #[ptrV rb, encPK k] w fun r w' => ∃ i : Int, r = .int .i64 i ∧ ((i = -1 ∧ asc k L = none) ∨ ∃ (j : Nat) (p : List CD), i = (j : Int) ∧ j < n ∧ L[j]? = some (k, p) ∧ asc k L = some p) ∧ Keep w w' := by
  have hl := hs0.len
  have hbd := hs0.bound
  have hpl := hps.len
  have hrb := hB.lt
  refine X.enter Try.func38 rfl Try.ntmps38 rfl ?_
  refine X.seq ?_
  refine X.region ?_
  refine X.opE X.wN rfl (X.boxE rfl rfl) ?_
  rintro _ w1 ⟨rfl, hB1, hk1, hz1⟩
  refine X.opw X.wN rfl (X.assign rfl) ?_
  refine X.opsEnd ?_
  refine X.seq ?_
  refine X.seq ?_
  refine X.region ?_
  refine X.opw X.wN rfl (X.assign rfl) ?_
  refine X.opsEnd ?_
  refine X.block ?_
  -- LOOP live: 0=c, 3=k, 5=i*
  refine X.loopL (σ := Nat) (fun s => [(0, ptrV rb), (3, .pointer (some ⟨w.heap.size, 0, none⟩)), (5, .int .i64 (s : Int))]) (fun s w' => s ≤ n ∧ asc k L = asc k (L.drop s) ∧ Blk w' w.heap.size [.string k.1, .int .i64 k.2] 30 ∧ Keep w w') (fun s => n - s) 0 ⟨rfl, rfl, rfl, trivial⟩ ⟨Nat.zero_le _, rfl, hB1, hk1⟩ ?_
  rintro i b0 wl ⟨hi, hna, hBl, hk⟩ hback
  have hk' := hk.size
  refine X.seq ?_
  refine X.seq ?_
  refine X.region ?_
  refine X.opw X.wN rfl (X.move (v := .int .i64 _) rfl) ?_
  refine X.opw X.wN rfl (X.move rfl) ?_
  refine X.opw X.wN rfl (X.nilCk rfl) ?_
  refine X.opw X.wN rfl (X.fldB (j := 1) Try.underlying51 rfl rfl Try.sizeOf49 rfl) ?_
  refine X.opw X.wN rfl (X.load1B Try.isAgg49 (hB.keep hk) rfl rfl) ?_
  refine X.opw X.wN rfl (X.lenSl Try.underlying49 rfl) ?_
  refine X.opP X.wN rfl rfl (X.lss rfl rfl) (fun h12 => ?_) (fun h12 => ?_)
  · obtain ⟨x, hx⟩ := getL i hl (by omega)
    obtain ⟨q, hq⟩ := getL (l := L) i rfl (by omega)
    obtain ⟨hxq, loq, hiq, hqT, hsq⟩ := hps.get i x q hx hq
    have hdr := drop_at hq
    refine X.opsEnd ?_
    refine X.condT rfl ?_
    refine X.skip ?_
    refine X.seq ?_
    refine X.block ?_
    refine X.seq ?_
    refine X.regionD (fun _ => False) 10 (by kernel_rfl) (by kernel_rfl) (fun w2 hk2 hz2 => ?_)
    refine X.dTake 0 rfl (by kernel_rfl) (by kernel_rfl) (by kernel_rfl) (X.dwN rfl) (fun w' hk' => X.move rfl) ?_
    refine X.dTake 1 rfl (by kernel_rfl) (by kernel_rfl) (by kernel_rfl) (X.dwN rfl) (fun w' hk' => X.nilCk rfl) ?_
    refine X.dTake 2 rfl (by kernel_rfl) (by kernel_rfl) (by kernel_rfl) (X.dwN rfl) (fun w' hk' => X.fldB (j := 1) Try.underlying51 rfl rfl Try.sizeOf49 rfl) ?_
    refine X.dTake 3 rfl (by kernel_rfl) (by kernel_rfl) (by kernel_rfl) (X.dwN rfl) (fun w' hk' => X.load1B Try.isAgg49 (hB.keep ((hk.trans hk2).trans hk')) rfl rfl) ?_
    refine X.dTake 4 rfl (by kernel_rfl) (by kernel_rfl) (by kernel_rfl) (X.dwN rfl) (fun w' hk' => X.move (v := .int .i64 _) rfl) ?_
    refine X.dTake 5 rfl (by kernel_rfl) (by kernel_rfl) (by kernel_rfl) (X.dwN rfl) (fun w' hk' => X.idxS (hs0.keep ((hk.trans hk2).trans hk')) Try.underlying49 Try.sizeOf56 rfl rfl ⟨by omega, by omega⟩) ?_
    refine X.dTake 6 rfl (by kernel_rfl) (by kernel_rfl) (by kernel_rfl) (X.dwN rfl) (fun w' hk' => X.fldA Try.underlying56 rfl rfl Try.sizeOf30) ?_
    refine X.dTake 7 rfl (by kernel_rfl) (by kernel_rfl) (by kernel_rfl) (X.dwN rfl) (fun w' hk' => X.loadSfN (o := 0) (vs := [.string x.1.1, .int .i64 x.1.2]) Try.isAgg30 Try.sizeOf30 (hs0.keep ((hk.trans hk2).trans hk')) hx rfl (fun _ h => by rw [h.1]; rfl) rfl) ?_
    refine X.dTake 8 rfl (by kernel_rfl) (by kernel_rfl) (by kernel_rfl) (X.dwN rfl) (fun w' hk' => X.loadNB Try.isAgg30 Try.sizeOf30 (hBl.keep (hk2.trans hk')) rfl rfl rfl) ?_
    refine X.dTake 9 rfl (by kernel_rfl) (by kernel_rfl) (by kernel_rfl) (X.dwN rfl) (fun w' hk' => X.eqA eqPk_guard rfl rfl (eqPk x.1 k _)) ?_
    refine X.dEnd (by kernel_rfl) ?_
    refine X.condB rfl (fun hc => ?_) (fun hc => ?_)
    · refine X.seq ?_
      refine X.region ?_
      refine X.opw X.wN rfl (X.move (v := .int .i64 _) rfl) ?_
      refine X.opw X.wN rfl (X.assign (v := .int .i64 _) rfl) ?_
      refine X.opsEnd ?_
      refine X.ret1 (v := (.int .i64 _)) Try.func38 Try.results38 rfl ?_
      have hkx : x.1 = k := by simpa using hc
      refine ⟨_, rfl, .inr ⟨i, q.2, rfl, by omega, ?_, ?_⟩, (hk.trans hk2)⟩
      · rw [hq]; congr 1; exact Prod.ext (by rw [← hxq]; exact hkx) rfl
      · rw [hna, hdr, asc, if_pos (by rw [← hxq]; exact hkx.symm)]
    · refine X.skip ?_
      refine X.inBlock ?_
      refine X.region ?_
      refine X.opw X.wN rfl (X.move (v := .int .i64 _) rfl) ?_
      refine X.opw X.wN rfl (X.add rfl rfl (X.w_i64 (by omega))) ?_
      refine X.opw X.wN rfl (X.assign (v := .int .i64 _) rfl) ?_
      refine X.opsEnd ?_
      refine hback (i + 1) _ _ ⟨rfl, rfl, rfl, trivial⟩ ⟨by omega, by rw [hna, hdr, asc, if_neg (by rw [← hxq, eq_comm]; simpa using hc)], (hBl.keep hk2), (hk.trans hk2)⟩ (by omega)
  · refine X.opsEnd ?_
    refine X.condF rfl ?_
    refine X.exit rfl ?_
    refine X.seq ?_
    refine X.region ?_
    refine X.opw X.wN rfl (X.assign rfl) ?_
    refine X.opsEnd ?_
    refine X.ret1 (v := (.int .i64 _)) Try.func38 Try.results38 rfl ?_
    refine ⟨_, rfl, .inl ⟨rfl, ?_⟩, hk⟩
    rw [hna, List.drop_eq_nil_of_le (by omega)]
    rfl
-- f17 "(*pedigree/pedigreeref08.Cache).Keys" params [39] results [28] -> [(ResultVar.tmp 2)] nfree 0 ntmps 26
set_option maxHeartbeats 4000000 in
set_option maxRecDepth 100000 in
theorem RKeys_c {TB : Nat → Prop} {rb : Nat} {rm h ms g : Int} {A : Option Addr} {n c lo hi : Nat} {hs : List HL} {L : PGS} (w : World) (hB : Blk w rb (reL rm A n c h ms g) 51) (hs0 : Sl KHd lo hi w A n hs) (hps : Lps TB w hs L) (hn1 : L.length ≤ 100000) : Ret Try.prog 17 #[ptrV rb] w fun r w' => ∃ A' c', r = .slice A' (L.map (·.1)).length c' ∧ Sl KPk w.heap.size w'.heap.size w' A' (L.map (·.1)).length (L.map (·.1)) ∧ Keep w w' := by
  have hl := hs0.len
  have hbd := hs0.bound
  have hpl := hps.len
  have hrb := hB.lt
  refine X.enter Try.func17 rfl Try.ntmps17 rfl ?_
  refine X.seq ?_
  refine X.region ?_
  refine X.opw X.wN rfl (X.assign rfl) ?_
  refine X.opsEnd ?_
  refine X.seq ?_
  refine X.region ?_
  refine X.opw X.wN rfl (X.assign rfl) ?_
  refine X.opsEnd ?_
  refine X.seq ?_
  refine X.seq ?_
  refine X.region ?_
  refine X.opw X.wN rfl (X.assign rfl) ?_
  refine X.opsEnd ?_
  refine X.block ?_
  -- LOOP live: 0=c, 3=out*, 4=i*
  refine X.loopL (σ := Nat × Value) (fun s => [(0, ptrV rb), (3, s.2), (4, .int .i64 (s.1 : Int))]) (fun s w' => s.1 ≤ n ∧ Mine KPk 30 (fun k => w.heap.size ≤ k) 0 0 w' s.2 ((L.take s.1).map (·.1)) ∧ Keep w w') (fun s => n - s.1) (0, _) ⟨rfl, rfl, rfl, trivial⟩ ⟨Nat.zero_le _, Mine.nil _ _ _ _ _ _, (Keep.refl _)⟩ ?_
  rintro ⟨i, v⟩ b0 wl ⟨hi, hMo, hk⟩ hback
  dsimp only
  simp only at hi hMo
  have hk' := hk.size
  refine X.seq ?_
  refine X.seq ?_
  refine X.region ?_
  refine X.opw X.wN rfl (X.move (v := .int .i64 _) rfl) ?_
  refine X.opw X.wN rfl (X.move rfl) ?_
  refine X.opw X.wN rfl (X.nilCk rfl) ?_
  refine X.opw X.wN rfl (X.fldB (j := 1) Try.underlying51 rfl rfl Try.sizeOf49 rfl) ?_
  refine X.opw X.wN rfl (X.load1B Try.isAgg49 (hB.keep hk) rfl rfl) ?_
  refine X.opw X.wN rfl (X.lenSl Try.underlying49 rfl) ?_
  refine X.opP X.wN rfl rfl (X.lss rfl rfl) (fun h11 => ?_) (fun h11 => ?_)
  · obtain ⟨x, hx⟩ := getL i hl (by omega)
    obtain ⟨q, hq⟩ := getL (l := L) i rfl (by omega)
    obtain ⟨hxq, loq, hiq, hqT, hsq⟩ := hps.get i x q hx hq
    refine X.opsEnd ?_
    refine X.condT rfl ?_
    refine X.skip ?_
    refine X.seq ?_
    refine X.block ?_
    refine X.region ?_
    refine X.opw X.wN rfl (X.move rfl) ?_
    refine X.opw X.wN rfl (X.move rfl) ?_
    refine X.opw X.wN rfl (X.nilCk rfl) ?_
    refine X.opw X.wN rfl (X.fldB (j := 1) Try.underlying51 rfl rfl Try.sizeOf49 rfl) ?_
    refine X.opw X.wN rfl (X.load1B Try.isAgg49 (hB.keep hk) rfl rfl) ?_
    refine X.opw X.wN rfl (X.move (v := .int .i64 _) rfl) ?_
    refine X.opw X.wN rfl (X.idxS (hs0.keep hk) Try.underlying49 Try.sizeOf56 rfl rfl ⟨by omega, by omega⟩) ?_
    refine X.opw X.wN rfl (X.fldA Try.underlying56 rfl rfl Try.sizeOf30) ?_
    refine X.opw X.wN rfl (X.loadSfN (o := 0) (vs := [.string x.1.1, .int .i64 x.1.2]) Try.isAgg30 Try.sizeOf30 (hs0.keep hk) hx rfl (fun _ h => by rw [h.1]; rfl) rfl) ?_
    refine X.opE X.wN rfl (X.litKF KPk_flat (K := KPk) (xs := [Operand.tmp 22]) (vs := [encPK x.1]) (ys := [x.1]) Try.underlying28 Try.sizeOf30 Try.zeroValue30 rfl rfl rfl rfl rfl (repsPk1 _)) ?_
    rintro _ w1 ⟨rfl, hs1, hB1, hk1, hz1⟩
    refine X.opE X.wN rfl (X.appE (K := KPk) (S := fun k => w.heap.size ≤ k) KPk_flat Try.underlying28 EPk rfl rfl (hMo.keep hk1) hs1 (by (try simp only [List.length_map, List.length_append, List.length_cons, List.length_nil, List.length_take, List.length_drop, List.length_map, List.length_range]); omega) (by intros; (try simp only [] at *); omega)) ?_
    rintro v2 w2 ⟨hM2, hx2⟩
    have hx2' := hx2.size
    refine X.opw X.wN rfl (X.assign rfl) ?_
    refine X.opsEnd ?_
    refine X.inBlock ?_
    refine X.region ?_
    refine X.opw X.wN rfl (X.move (v := .int .i64 _) rfl) ?_
    refine X.opw X.wN rfl (X.add rfl rfl (X.w_i64 (by omega))) ?_
    refine X.opw X.wN rfl (X.assign (v := .int .i64 _) rfl) ?_
    refine X.opsEnd ?_
    refine hback (i + 1, _) _ _ ⟨rfl, rfl, rfl, trivial⟩ ⟨by dsimp only; omega, by dsimp only; rw [take_at hq, List.map_append, List.map_singleton, ← hxq]; exact hM2, ((hk.trans hk1).step hx2 (by intros; (try simp only [] at *); omega))⟩ (by dsimp only; omega)
  · refine X.opsEnd ?_
    refine X.condF rfl ?_
    refine X.exit rfl ?_
    refine X.seq ?_
    refine X.region ?_
    refine X.opw X.wN rfl (X.move rfl) ?_
    refine X.opw X.wN rfl (X.assign rfl) ?_
    refine X.opsEnd ?_
    refine X.ret1 Try.func17 Try.results17 rfl ?_
    have hin : i = n := by omega
    rw [hin, List.take_of_length_le (by omega)] at hMo
    obtain ⟨A', c', e, hc', _⟩ := hMo.slice
    subst e
    exact ⟨A', c', rfl, mine_0 KPk_flat hMo w.heap.size (fun k h => h), hk⟩
-- f14 "pedigree/pedigreeref08.New" params [3] results [39, 25] -> [(ResultVar.tmp 2), (ResultVar.tmp 3)] nfre
set_option maxHeartbeats 4000000 in
set_option maxRecDepth 100000 in
theorem RNew_c (rm : Int) (w : World) : Ret Try.prog 14 #[.int .i64 rm] w fun r w' => (rm < 0 ∨ 1024 < rm) ∧ r = .tuple #[.pointer none, .int .i64 80] ∧ Keep w w' ∨ ¬ (rm < 0 ∨ 1024 < rm) ∧ ∃ rb, r = .tuple #[ptrV rb, .int .i64 0] ∧ ReIn (fun _ => False) w' rb ⟨rm, [], 0, 0, 0⟩ ∧ w.heap.size ≤ rb ∧ rb < w'.heap.size ∧ Keep w w' := by
  refine X.enter Try.func14 rfl Try.ntmps14 rfl ?_
  refine X.seq ?_
  refine X.region ?_
  refine X.opw X.wN rfl (X.assign rfl) ?_
  refine X.opw X.wN rfl (X.assign rfl) ?_
  refine X.opsEnd ?_
  refine X.seq ?_
  refine X.seq ?_
  refine X.region ?_
  refine X.opw X.wN rfl (X.move (v := .int .i64 _) rfl) ?_
  refine X.opP X.wN rfl rfl (X.lss rfl rfl) (fun h5 => ?_) (fun h5 => ?_)
  · refine X.opw X.wN rfl (X.move (v := .bool true) rfl) ?_
    refine X.opS rfl rfl rfl rfl rfl ?_
    refine X.opS rfl rfl rfl rfl rfl ?_
    refine X.opw X.wN rfl (X.pickT (v := .bool true) rfl rfl) ?_
    refine X.opsEnd ?_
    refine X.condT rfl ?_
    refine X.seq ?_
    refine X.region ?_
    refine X.opw X.wN rfl (X.assign rfl) ?_
    refine X.opw X.wN rfl (X.assign rfl) ?_
    refine X.opsEnd ?_
    refine X.ret2 (v2 := (.int .i64 _)) Try.func14 Try.results14 rfl rfl ?_
    exact .inl ⟨by omega, rfl, (Keep.refl _)⟩
  · refine X.opw X.wN rfl (X.move (v := .bool false) rfl) ?_
    refine X.opw (X.wG rfl rfl rfl) rfl (X.move (v := .int .i64 _) rfl) ?_
    refine X.opP (X.wG rfl rfl rfl) rfl rfl (X.gtr rfl rfl) (fun h8 => ?_) (fun h8 => ?_)
    · refine X.opw X.wN rfl (X.pickF (v := .bool true) rfl rfl) ?_
      refine X.opsEnd ?_
      refine X.condT rfl ?_
      refine X.seq ?_
      refine X.region ?_
      refine X.opw X.wN rfl (X.assign rfl) ?_
      refine X.opw X.wN rfl (X.assign rfl) ?_
      refine X.opsEnd ?_
      refine X.ret2 (v2 := (.int .i64 _)) Try.func14 Try.results14 rfl rfl ?_
      exact .inl ⟨by omega, rfl, (Keep.refl _)⟩
    · refine X.opw X.wN rfl (X.pickF (v := .bool false) rfl rfl) ?_
      refine X.opsEnd ?_
      refine X.condF rfl ?_
      refine X.skip ?_
      refine X.seq ?_
      refine X.region ?_
      refine X.opw X.wN rfl (X.move (v := .int .i64 _) rfl) ?_
      refine X.opw X.wN rfl (X.buildB (vs := [(0, .int .i64 rm)]) (cs := #[.int .i64 rm, .slice none 0 0, .int .i64 0, .int .i64 0, .int .i64 0]) rfl (by kernel_rfl)) ?_
      refine X.opE X.wN rfl (X.boxE rfl rfl) ?_
      rintro _ w1 ⟨rfl, hB1, hk1, hz1⟩
      refine X.opw X.wN rfl (X.assign rfl) ?_
      refine X.opw X.wN rfl (X.assign rfl) ?_
      refine X.opsEnd ?_
      refine X.ret2 (v2 := (.int .i64 _)) Try.func14 Try.results14 rfl rfl ?_
      exact .inr ⟨by omega, w.heap.size, rfl, ⟨none, 0, 0, [], 0, 0, hB1, Sl.nil _ _ _ _ _, fun k _ h => by omega, Nat.zero_le _, Nat.le_refl _, ⟨rfl, fun i h p h1 => by simp at h1⟩, fun h => h, fun k h => h.elim⟩, by omega, by omega, hk1⟩
-- f39 "(*pedigree/pedigreeref08.Cache).front" params [39, 56] results [] -> [] nfree 0 ntmps 42 names ["c", "
set_option maxHeartbeats 4000000 in
set_option maxRecDepth 100000 in
theorem front_c {TB : Nat → Prop} {rb lp hp : Nat} {s0 : Ca} {p : List CD} (y : HL) (w : World) (hR : ReIn TB w rb s0) (hyT : ∀ k, lp ≤ k → k < hp → TB k) (hyp : Sl KC lp hp w y.2.1 y.2.2.1 p) (hLn : s0.L.length ≤ 10000) : Ret Try.prog 39 #[ptrV rb, evH y] w fun r w' => r = .tuple #[] ∧ ReIn (fun q => TB q ∨ (w.heap.size ≤ q ∧ q < w'.heap.size)) w' rb { s0 with L := (y.1, p) :: s0.L.filter fun q => decide (q.1 ≠ y.1) } ∧ Ext (fun q => q = rb) w w' := by
  obtain ⟨A, n, c, hs, lo, hi0, hB, hs0, hloT, hhi, hnc, hps, hrT, hTw⟩ := hR
  obtain ⟨L, hL⟩ : ∃ L, L = s0.L := ⟨_, rfl⟩
  rw [← hL] at hps hLn
  have hl := hs0.len
  have hbd := hs0.bound
  have hpl := hps.len
  have hrb := hB.lt
  refine X.enter Try.func39 rfl Try.ntmps39 rfl ?_
  refine X.seq ?_
  refine X.region ?_
  refine X.opE X.wN rfl (X.boxE rfl rfl) ?_
  rintro _ w1 ⟨rfl, hB1, hk1, hz1⟩
  refine X.opsEnd ?_
  refine X.seq ?_
  refine X.region ?_
  refine X.opw X.wN rfl (X.loadNB Try.isAgg56 Try.sizeOf56 hB1 rfl rfl rfl) ?_
  refine X.opE X.wN rfl (X.litKF KHd_flat (K := KHd) (xs := [Operand.tmp 6]) (vs := [evH y]) (ys := [y]) Try.underlying49 Try.sizeOf56 Try.zeroValue56 rfl rfl rfl rfl rfl (repsH _)) ?_
  rintro _ w2 ⟨rfl, hs2, hB2, hk2, hz2⟩
  refine X.opw X.wN rfl (X.assign rfl) ?_
  refine X.opsEnd ?_
  refine X.seq ?_
  refine X.seq ?_
  refine X.region ?_
  refine X.opw X.wN rfl (X.assign rfl) ?_
  refine X.opsEnd ?_
  refine X.block ?_
  -- LOOP live: 0=c, 3=h, 4=l*, 5=i*
  refine X.loopL (σ := Nat × Value × List HL) (fun s => [(0, ptrV rb), (3, .pointer (some ⟨w.heap.size, 0, none⟩)), (4, s.2.1), (5, .int .i64 (s.1 : Int))]) (fun s w' => s.1 ≤ n ∧ s.2.2.length ≤ s.1 + 1 ∧ Mine KHd 56 (fun k => w.heap.size < k) 0 0 w' s.2.1 s.2.2 ∧ Lps TB w' s.2.2 ((y.1, p) :: (L.take s.1).filter fun q => decide (q.1 ≠ y.1)) ∧ Blk w' w.heap.size [.string y.1.1, .int .i64 y.1.2, .slice y.2.1 y.2.2.1 y.2.2.2] 56 ∧ Keep w w') (fun s => n - s.1) (0, _, [y]) ⟨rfl, rfl, rfl, rfl, trivial⟩ ⟨Nat.zero_le _, Nat.le_refl _, (Mine.litV (vs := [evH y]) (w0 := w1) KHd_flat hB2 (repsH _) rfl (by omega) (by intros; (try simp only [] at *); omega)), ⟨rfl, fun i a q h1 h2 => by cases i with | zero => (simp at h1 h2; subst h1 h2; exact ⟨rfl, lp, hp, hyT, hyp.keep (hk1.trans hk2)⟩) | succ i => simp at h1⟩, (hB1.keep hk2), (hk1.trans hk2)⟩ ?_
  rintro ⟨i, v, l⟩ b0 wl ⟨hi, hll, hMo, hlp, hBl, hk⟩ hback
  dsimp only
  simp only at hi hll hMo hlp
  have hk' := hk.size
  refine X.seq ?_
  refine X.seq ?_
  refine X.region ?_
  refine X.opw X.wN rfl (X.move (v := .int .i64 _) rfl) ?_
  refine X.opw X.wN rfl (X.move rfl) ?_
  refine X.opw X.wN rfl (X.nilCk rfl) ?_
  refine X.opw X.wN rfl (X.fldB (j := 1) Try.underlying51 rfl rfl Try.sizeOf49 rfl) ?_
  refine X.opw X.wN rfl (X.load1B Try.isAgg49 (hB.keep hk) rfl rfl) ?_
  refine X.opw X.wN rfl (X.lenSl Try.underlying49 rfl) ?_
  refine X.opP X.wN rfl rfl (X.lss rfl rfl) (fun h14 => ?_) (fun h14 => ?_)
  · obtain ⟨x, hx⟩ := getL i hl (by omega)
    obtain ⟨q, hq⟩ := getL (l := L) i rfl (by omega)
    obtain ⟨hxq, loq, hiq, hqT, hsq⟩ := hps.get i x q hx hq
    refine X.opsEnd ?_
    refine X.condT rfl ?_
    refine X.skip ?_
    refine X.seq ?_
    refine X.block ?_
    refine X.seq ?_
    refine X.regionD (fun _ => False) 11 (by kernel_rfl) (by kernel_rfl) (fun w3 hk3 hz3 => ?_)
    refine X.dTake 0 rfl (by kernel_rfl) (by kernel_rfl) (by kernel_rfl) (X.dwN rfl) (fun w' hk' => X.move rfl) ?_
    refine X.dTake 1 rfl (by kernel_rfl) (by kernel_rfl) (by kernel_rfl) (X.dwN rfl) (fun w' hk' => X.nilCk rfl) ?_
    refine X.dTake 2 rfl (by kernel_rfl) (by kernel_rfl) (by kernel_rfl) (X.dwN rfl) (fun w' hk' => X.fldB (j := 1) Try.underlying51 rfl rfl Try.sizeOf49 rfl) ?_
    refine X.dTake 3 rfl (by kernel_rfl) (by kernel_rfl) (by kernel_rfl) (X.dwN rfl) (fun w' hk' => X.load1B Try.isAgg49 (hB.keep ((hk.trans hk3).trans hk')) rfl rfl) ?_
    refine X.dTake 4 rfl (by kernel_rfl) (by kernel_rfl) (by kernel_rfl) (X.dwN rfl) (fun w' hk' => X.move (v := .int .i64 _) rfl) ?_
    refine X.dTake 5 rfl (by kernel_rfl) (by kernel_rfl) (by kernel_rfl) (X.dwN rfl) (fun w' hk' => X.idxS (hs0.keep ((hk.trans hk3).trans hk')) Try.underlying49 Try.sizeOf56 rfl rfl ⟨by omega, by omega⟩) ?_
    refine X.dTake 6 rfl (by kernel_rfl) (by kernel_rfl) (by kernel_rfl) (X.dwN rfl) (fun w' hk' => X.fldA Try.underlying56 rfl rfl Try.sizeOf30) ?_
    refine X.dTake 7 rfl (by kernel_rfl) (by kernel_rfl) (by kernel_rfl) (X.dwN rfl) (fun w' hk' => X.loadSfN (o := 0) (vs := [.string x.1.1, .int .i64 x.1.2]) Try.isAgg30 Try.sizeOf30 (hs0.keep ((hk.trans hk3).trans hk')) hx rfl (fun _ h => by rw [h.1]; rfl) rfl) ?_
    refine X.dTake 8 rfl (by kernel_rfl) (by kernel_rfl) (by kernel_rfl) (X.dwN rfl) (fun w' hk' => X.fldB (j := 0) Try.underlying56 rfl rfl Try.sizeOf30 rfl) ?_
    refine X.dTake 9 rfl (by kernel_rfl) (by kernel_rfl) (by kernel_rfl) (X.dwN rfl) (fun w' hk' => X.loadNB Try.isAgg30 Try.sizeOf30 (hBl.keep (hk3.trans hk')) rfl rfl rfl) ?_
    refine X.dTake 10 rfl (by kernel_rfl) (by kernel_rfl) (by kernel_rfl) (X.dwN rfl) (fun w' hk' => X.neA eqPk_guard rfl rfl (eqPk x.1 y.1 _)) ?_
    refine X.dEnd (by kernel_rfl) ?_
    refine X.condB rfl (fun hc => ?_) (fun hc => ?_)
    · refine X.region ?_
      refine X.opw X.wN rfl (X.move rfl) ?_
      refine X.opw X.wN rfl (X.move rfl) ?_
      refine X.opw X.wN rfl (X.nilCk rfl) ?_
      refine X.opw X.wN rfl (X.fldB (j := 1) Try.underlying51 rfl rfl Try.sizeOf49 rfl) ?_
      refine X.opw X.wN rfl (X.load1B Try.isAgg49 (hB.keep (hk.trans hk3)) rfl rfl) ?_
      refine X.opw X.wN rfl (X.move (v := .int .i64 _) rfl) ?_
      refine X.opw X.wN rfl (X.idxS (hs0.keep (hk.trans hk3)) Try.underlying49 Try.sizeOf56 rfl rfl ⟨by omega, by omega⟩) ?_
      refine X.opw X.wN rfl (X.loadSN Try.isAgg56 Try.sizeOf56 (hs0.keep (hk.trans hk3)) hx rfl (fun _ h => h.1) rfl) ?_
      refine X.opE X.wN rfl (X.litKF KHd_flat (K := KHd) (xs := [Operand.tmp 35]) (vs := [evH x]) (ys := [x]) Try.underlying49 Try.sizeOf56 Try.zeroValue56 rfl rfl rfl rfl rfl (repsH _)) ?_
      rintro _ w4 ⟨rfl, hs4, hB4, hk4, hz4⟩
      refine X.opE X.wN rfl (X.appE (K := KHd) (S := fun k => w.heap.size < k) KHd_flat Try.underlying49 EHd rfl rfl (hMo.keep (hk3.trans hk4)) hs4 (by (try simp only [List.length_append, List.length_cons, List.length_nil, List.length_take, List.length_drop, List.length_map, List.length_range]); omega) (by intros; (try simp only [] at *); omega)) ?_
      rintro v5 w5 ⟨hM5, hx5⟩
      have hx5' := hx5.size
      refine X.opw X.wN rfl (X.assign rfl) ?_
      refine X.opsEnd ?_
      refine X.inBlock ?_
      refine X.region ?_
      refine X.opw X.wN rfl (X.move (v := .int .i64 _) rfl) ?_
      refine X.opw X.wN rfl (X.add rfl rfl (X.w_i64 (by omega))) ?_
      refine X.opw X.wN rfl (X.assign (v := .int .i64 _) rfl) ?_
      refine X.opsEnd ?_
      have hlp2 : Lps TB w5 (l ++ [x]) ((y.1, p) :: (L.take (i + 1)).filter fun q => decide (q.1 ≠ y.1)) := by
        rw [frl_step hq, if_neg (by rw [← hxq]; simpa using hc), ← List.cons_append]
        exact ((((hlp.keep hk3).keep hk4).ext hx5 (fun k h1 h2 => by have h3 := hTw k h1; first | (have h2 : w.heap.size < k := h2; omega) | (have h2 : k = rb := h2; exact hrT (by rw [← h2]; exact h1))))).snoc hxq hqT (hsq.keep (((hk.trans hk3).trans hk4).step hx5 (by intros; (try simp only [] at *); omega)))
      refine hback (i + 1, _, l ++ [x]) _ _ ⟨rfl, rfl, rfl, rfl, trivial⟩ ⟨by dsimp only; omega, by dsimp only; rw [List.length_append, List.length_singleton]; omega, hM5, hlp2, ((hBl.keep (hk3.trans hk4)).ext hx5 (by intros; (try simp only []); first | omega | (intro hq; have hq2 := hq; (try simp only [] at hq2); omega))), (((hk.trans hk3).trans hk4).step hx5 (by intros; (try simp only [] at *); omega))⟩ (by dsimp only; omega)
    · refine X.skip ?_
      refine X.inBlock ?_
      refine X.region ?_
      refine X.opw X.wN rfl (X.move (v := .int .i64 _) rfl) ?_
      refine X.opw X.wN rfl (X.add rfl rfl (X.w_i64 (by omega))) ?_
      refine X.opw X.wN rfl (X.assign (v := .int .i64 _) rfl) ?_
      refine X.opsEnd ?_
      have hlp2 : Lps TB w3 l ((y.1, p) :: (L.take (i + 1)).filter fun q => decide (q.1 ≠ y.1)) := by
        rw [frl_step hq, if_pos (by rw [← hxq]; simpa using hc), List.append_nil]
        exact (hlp.keep hk3)
      refine hback (i + 1, v, l) _ _ ⟨rfl, rfl, rfl, rfl, trivial⟩ ⟨by dsimp only; omega, by dsimp only; omega, (hMo.keep hk3), hlp2, (hBl.keep hk3), (hk.trans hk3)⟩ (by dsimp only; omega)
  · refine X.opsEnd ?_
    refine X.condF rfl ?_
    refine X.exit rfl ?_
    refine X.region ?_
    refine X.opw X.wN rfl (X.move rfl) ?_
    refine X.opw X.wN rfl (X.move rfl) ?_
    refine X.opw X.wN rfl (X.nilCk rfl) ?_
    refine X.opw X.wN rfl (X.fldB (j := 1) Try.underlying51 rfl rfl Try.sizeOf49 rfl) ?_
    have q6 := hMo.slF KHd_flat 0 (fun _ _ => Nat.zero_le _)
    obtain ⟨A6, c6, rfl, hc6, hs6⟩ := q6
    refine X.opE X.wN rfl (X.storeE Try.sizeOf49 (hB.keep hk) rfl rfl rfl rfl) ?_
    rintro _ w7 ⟨hB7, hx7, hz7⟩
    refine X.opsEnd ?_
    refine X.end0 Try.func39 Try.results39 ?_
    rw [show i = n by omega, List.take_of_length_le (by omega), hL] at hlp
    exact ⟨rfl, ⟨A6, l.length, c6, l, w.heap.size, w7.heap.size, hB7, mine_0 KHd_flat (hMo.ext hx7 (by intros; (try simp only []); first | omega | (intro hq; have hq2 := hq; (try simp only [] at hq2); omega)) (by intros; (try simp only []); first | omega | (intro hq; have hq2 := hq; (try simp only [] at hq2); omega))) w.heap.size (fun k h => Nat.le_of_lt h), fun k h1 h2 => .inr ⟨h1, h2⟩, Nat.le_refl _, hc6, ((hlp.ext hx7 (fun k h1 h2 => by have h3 := hTw k h1; first | (have h2 : w.heap.size < k := h2; omega) | (have h2 : k = rb := h2; exact hrT (by rw [← h2]; exact h1))))).mono (fun k h => .inl h), fun h => h.elim hrT (fun h => by omega), fun k h => h.elim (fun h => by have := hTw k h; omega) (fun h => h.2)⟩, (Ext.andThen (Ext.andThen (Ext.refl (fun q => q = rb) _) hk (by intro q h1 h2; first | exact (h2 : False).elim | exact h2 | (exfalso; have h2 : w.heap.size < q := h2; omega))) hx7 (by intro q h1 h2; first | exact (h2 : False).elim | exact h2 | (exfalso; have h2 : w.heap.size < q := h2; omega)))⟩
end Go.Proofs.Ytjjhddjllpihaaa

namespace Go.Proofs.Ytjjhddjllpihaaa
open Go Go.Proofs.Ytjjhddjllpihaaa.X
set_option linter.unusedVariables false
set_option linter.unusedSimpArgs false
section
variable {P : Program} {ρ : Operand → Value} {w : World} {dst : Option Tmp} {ty : TypeId} {pos : String} {aft : Array Edge} {g : Option (Nat × Bool)}
theorem loadSf2 {α : Type} {K : Kd α} {lo hi : Nat} {T : TypeId} {x : Operand} {A : Option Addr} {n j o o2 : Nat} {xs : List α} {y : α} {v : Value} (hT : ∀ w, (isAgg T).run P w = .ok false w) (hS : Sl K lo hi w A n xs) (hy : xs[j]? = some y) (hx : ρ x = .pointer (some ((((A.getD default).add (j * K.sz)).add o).add o2))) (hv : ∀ cs, K.R lo hi w y cs → cs[o + o2]? = some v) :
    Does P ⟨dst, .load T x, ty, pos, aft, g⟩ ρ w v w := by
  rw [add_add] at hx
  exact loadSf hT hS hy hx hv
end
theorem sl_narV {lo hi N : Nat} {w : World} {A : Option Addr} {n : Nat} {l : List VAL} (h : Sl KV lo hi w A n l) (hN : ∀ k, lo ≤ k → k < hi → k < N) : Sl KV lo (min hi N) w A n l :=
  ⟨h.len, h.bound, fun hn => let ⟨ad, e, h1, h2, h3⟩ := h.at_ hn; ⟨ad, e, h1, by have := hN _ h1 h2; omega, fun j x hx => let ⟨cs, g1, g2⟩ := h3 j x hx; ⟨cs, KV_flat g1, g2⟩⟩⟩
theorem sl_narC {lo hi N : Nat} {w : World} {A : Option Addr} {n : Nat} {l : List CD} (h : Sl KC lo hi w A n l) (hN : ∀ k, lo ≤ k → k < hi → k < N) : Sl KC lo (min hi N) w A n l :=
  ⟨h.len, h.bound, fun hn => let ⟨ad, e, h1, h2, h3⟩ := h.at_ hn; ⟨ad, e, h1, by have := hN _ h1 h2; omega, fun j x hx => by
    obtain ⟨cs, ⟨ca, cb, e1, ⟨A', n', c', e2, hnc, hs⟩, hb⟩, g2⟩ := h3 j x hx
    exact ⟨cs, ⟨ca, cb, e1, ⟨A', n', c', e2, hnc, sl_narV hs hN⟩, hb⟩, g2⟩⟩⟩
theorem front_e {TB : Nat → Prop} {rb lp hp : Nat} {s0 : Ca} {p : List CD} (y : HL) (w : World) (hR : ReIn TB w rb s0) (hyT : ∀ k, lp ≤ k → k < hp → TB k) (hyp : Sl KC lp hp w y.2.1 y.2.2.1 p) (hLn : s0.L.length ≤ 10000) : Ret Try.prog 39 #[ptrV rb, evH y] w fun r w' => r = .tuple #[] ∧ (∃ A n c hs lo hi, Blk w' rb (reL s0.room A n c s0.h s0.m s0.g) 51 ∧ Sl KHd lo hi w' A n hs ∧ (∀ k, lo ≤ k → k < hi → TB k ∨ (w.heap.size ≤ k ∧ k < w'.heap.size)) ∧ hi ≤ w'.heap.size ∧ n ≤ c ∧ Lps (fun q => TB q ∨ (w.heap.size ≤ q ∧ q < w'.heap.size)) w' hs ((y.1, p) :: s0.L.filter fun q => decide (q.1 ≠ y.1)) ∧ ¬ (TB rb ∨ (w.heap.size ≤ rb ∧ rb < w'.heap.size)) ∧ ∀ k, (TB k ∨ (w.heap.size ≤ k ∧ k < w'.heap.size)) → k < w'.heap.size) ∧ Ext (fun q => q = rb) w w' :=
  (front_c y w hR hyT hyp hLn).mono fun r w' h => h
theorem ReIn.grow {TB TC : Nat → Prop} {w : World} {rb : Nat} {s : Ca} (h : ReIn TB w rb s) (hT : ∀ k, TB k → TC k) (hr : ¬ TC rb) (hl : ∀ k, TC k → k < w.heap.size) : ReIn TC w rb s := by
  obtain ⟨A, n, c, hs, lo, hi, h1, h2, h3, h4, h5, h6, h7, h8⟩ := h
  exact ⟨A, n, c, hs, lo, hi, h1, h2, fun k a b => hT k (h3 k a b), h4, h5, h6.mono hT, hr, hl⟩
theorem drl_step {nm : ByteArray} {q : PKEY × List CD} {L : PGS} {j : Nat} (hx : L[j]? = some q) : (L.take (j + 1)).filter (fun y => decide (y.1.1 ≠ nm)) = (L.take j).filter (fun y => decide (y.1.1 ≠ nm)) ++ if q.1.1 = nm then [] else [q] := by
  rw [take_at hx, List.filter_append]
  by_cases e : q.1.1 = nm
  · rw [if_pos e, List.filter_cons, if_neg (by simpa using e), List.filter_nil]
  · rw [if_neg e, List.filter_cons, if_pos (by simpa using e), List.filter_nil]
theorem put_take {s : Ca} {k : PKEY} {p : List CD} (hr : 0 < s.room) (hl : (s.L.length : Int) ≤ s.room) (h : s.room < (((k, p) :: s.L.filter fun q => decide (q.1 ≠ k)).length : Int)) : s.put k p = { s with L := ((k, p) :: s.L.filter fun q => decide (q.1 ≠ k)).take s.room.toNat, g := s.g + 1 } := by
  rw [Ca.put, if_neg (by omega), if_pos h]
  have hfl := List.length_filter_le (fun q : PKEY × List CD => decide (q.1 ≠ k)) s.L
  rw [List.length_cons] at h
  rw [List.dropLast_eq_take]
  congr 2
  rw [List.length_cons]; omega
-- f30 "(*pedigree/pedigreeref08.Cache).Get" params [39, 30] results [33, 4] -> [(ResultVar.tmp 4), (ResultVar
set_option maxHeartbeats 4000000 in
set_option maxRecDepth 100000 in
theorem RGet_c {TB : Nat → Prop} {rb : Nat} {s0 : Ca} (k : PKEY) (w : World) (hR : ReIn TB w rb s0) (hokL : ∀ q, q ∈ s0.L → okPg q.2) (hLn : s0.L.length ≤ 10000) (hh : -1000000 ≤ s0.h ∧ s0.h ≤ 1000000) (hms : -1000000 ≤ s0.m ∧ s0.m ≤ 1000000) : Ret Try.prog 30 #[ptrV rb, encPK k] w fun r w' => ∃ A' c', r = .tuple #[.slice A' ((asc k s0.L).getD []).length c', .bool (asc k s0.L).isSome] ∧ Sl KC w.heap.size w'.heap.size w' A' ((asc k s0.L).getD []).length ((asc k s0.L).getD []) ∧ ReIn (fun q => TB q ∨ (w.heap.size ≤ q ∧ q < w'.heap.size)) w' rb (s0.get k) ∧ Ext (fun q => q = rb) w w' := by
  obtain ⟨A, n, c, hs, lo, hi0, hB, hs0, hloT, hhi, hnc, hps, hrT, hTw⟩ := hR
  have hl := hs0.len
  have hbd := hs0.bound
  have hpl := hps.len
  have hrb := hB.lt
  refine X.enter Try.func30 rfl Try.ntmps30 rfl ?_
  refine X.seq ?_
  refine X.region ?_
  refine X.opE X.wN rfl (X.boxE rfl rfl) ?_
  rintro _ w1 ⟨rfl, hB1, hk1, hz1⟩
  refine X.opw X.wN rfl (X.assign rfl) ?_
  refine X.opw X.wN rfl (X.assign rfl) ?_
  refine X.opsEnd ?_
  refine X.seq ?_
  refine X.region ?_
  refine X.opw X.wN rfl (X.move rfl) ?_
  refine X.opw X.wN rfl (X.loadNB Try.isAgg30 Try.sizeOf30 hB1 rfl rfl rfl) ?_
  refine X.opE X.wN rfl (X.callE (find_c k _ (hB.keep hk1) (hs0.keep hk1) (hps.keep hk1)) Try.call38 rfl rfl) ?_
  rintro _ w2 ⟨fi, rfl, hfi, hk2⟩
  have hk2' := hk2.size
  refine X.opw X.wN rfl (X.assign (v := .int .i64 _) rfl) ?_
  refine X.opsEnd ?_
  refine X.seq ?_
  refine X.seq ?_
  refine X.region ?_
  refine X.opw X.wN rfl (X.move (v := .int .i64 _) rfl) ?_
  refine X.opP X.wN rfl rfl (X.lss rfl rfl) (fun h11 => ?_) (fun h11 => ?_)
  · refine X.opsEnd ?_
    refine X.condT rfl ?_
    refine X.seq ?_
    refine X.region ?_
    refine X.opw X.wN rfl (X.move rfl) ?_
    refine X.opw X.wN rfl (X.nilCk rfl) ?_
    refine X.opw X.wN rfl (X.fldB (j := 2) Try.underlying51 rfl rfl Try.sizeOf47 rfl) ?_
    refine X.opw X.wN rfl (X.fldB (j := 3) Try.underlying47 rfl rfl Try.sizeOf3 rfl) ?_
    refine X.opw X.wN rfl (X.load1B Try.isAgg3 (hB.keep (hk1.trans hk2)) rfl rfl) ?_
    refine X.opw X.wN rfl (X.add (c := s0.m + 1) rfl rfl (X.w_i64 (by omega))) ?_
    refine X.opw X.wN rfl (X.nilCk rfl) ?_
    refine X.opw X.wN rfl (X.fldB (j := 2) Try.underlying51 rfl rfl Try.sizeOf47 rfl) ?_
    refine X.opw X.wN rfl (X.fldB (j := 3) Try.underlying47 rfl rfl Try.sizeOf3 rfl) ?_
    refine X.opE X.wN rfl (X.storeE Try.sizeOf3 (hB.keep (hk1.trans hk2)) rfl rfl rfl rfl) ?_
    rintro _ w3 ⟨hB3, hx3, hz3⟩
    refine X.opsEnd ?_
    refine X.seq ?_
    refine X.region ?_
    refine X.opw X.wN rfl (X.assign rfl) ?_
    refine X.opw X.wN rfl (X.assign rfl) ?_
    refine X.opsEnd ?_
    refine X.ret2 (v2 := (.bool _)) Try.func30 Try.results30 rfl rfl ?_
    have han : asc k s0.L = none := by
      rcases hfi with ⟨_, h⟩ | ⟨j, p, e, _⟩
      · exact h
      · exact absurd h11 (by omega)
    rw [show s0.get k = { s0 with m := s0.m + 1 } by simp [Ca.get, han], han]
    exact ⟨none, 0, rfl, Sl.nil _ _ _ _ _, ⟨A, n, c, hs, lo, hi0, hB3, (((hs0.keep hk1).keep hk2).ext hx3 (fun k h1 h2 h3 => by have h3 : k = rb := h3; exact hrT (by rw [← h3]; exact hloT k h1 h2))), fun k a b => .inl (hloT k a b), by omega, hnc, ((((hps.keep hk1).keep hk2).ext hx3 (fun k h1 h2 => by have h2 : k = rb := h2; exact hrT (by rw [← h2]; exact h1)))).mono (fun k h => .inl h), fun h => h.elim hrT (fun h => by omega), fun k h => h.elim (fun h => by have := hTw k h; omega) (fun h => h.2)⟩, (Ext.andThen (Ext.andThen (Ext.andThen (Ext.refl (fun q => q = rb) _) hk1 (by intro q h1 h2; first | exact (h2 : False).elim | exact h2 | (exfalso; have h2 : w.heap.size ≤ q := h2; omega))) hk2 (by intro q h1 h2; first | exact (h2 : False).elim | exact h2 | (exfalso; have h2 : w.heap.size ≤ q := h2; omega))) hx3 (by intro q h1 h2; first | exact (h2 : False).elim | exact h2 | (exfalso; have h2 : w.heap.size ≤ q := h2; omega)))⟩
  · rcases hfi with ⟨e, _⟩ | ⟨j, p, rfl, hjn, hjq, hap⟩
    · exact absurd e (by omega)
    obtain ⟨x, hx⟩ := getL j hl hjn
    obtain ⟨hxq, loq, hiq, hqT, hsq⟩ := hps.get j x (k, p) hx hjq
    have hokp := hokL _ (List.mem_of_getElem? hjq)
    refine X.opsEnd ?_
    refine X.condF rfl ?_
    refine X.skip ?_
    refine X.seq ?_
    refine X.region ?_
    refine X.opw X.wN rfl (X.move rfl) ?_
    refine X.opw X.wN rfl (X.nilCk rfl) ?_
    refine X.opw X.wN rfl (X.fldB (j := 2) Try.underlying51 rfl rfl Try.sizeOf47 rfl) ?_
    refine X.opw X.wN rfl (X.fldB (j := 2) Try.underlying47 rfl rfl Try.sizeOf3 rfl) ?_
    refine X.opw X.wN rfl (X.load1B Try.isAgg3 (hB.keep (hk1.trans hk2)) rfl rfl) ?_
    refine X.opw X.wN rfl (X.add (c := s0.h + 1) rfl rfl (X.w_i64 (by omega))) ?_
    refine X.opw X.wN rfl (X.nilCk rfl) ?_
    refine X.opw X.wN rfl (X.fldB (j := 2) Try.underlying51 rfl rfl Try.sizeOf47 rfl) ?_
    refine X.opw X.wN rfl (X.fldB (j := 2) Try.underlying47 rfl rfl Try.sizeOf3 rfl) ?_
    refine X.opE X.wN rfl (X.storeE Try.sizeOf3 (hB.keep (hk1.trans hk2)) rfl rfl rfl rfl) ?_
    rintro _ w4 ⟨hB4, hx4, hz4⟩
    refine X.opsEnd ?_
    refine X.seq ?_
    refine X.region ?_
    refine X.opw X.wN rfl (X.move rfl) ?_
    refine X.opw X.wN rfl (X.move rfl) ?_
    refine X.opw X.wN rfl (X.nilCk rfl) ?_
    refine X.opw X.wN rfl (X.fldB (j := 1) Try.underlying51 rfl rfl Try.sizeOf49 rfl) ?_
    refine X.opw X.wN rfl (X.load1B Try.isAgg49 hB4 rfl rfl) ?_
    refine X.opw X.wN rfl (X.move (v := .int .i64 _) rfl) ?_
    refine X.opw X.wN rfl (X.idxS (((hs0.keep hk1).keep hk2).ext hx4 (fun k h1 h2 h3 => by have h3 : k = rb := h3; exact hrT (by rw [← h3]; exact hloT k h1 h2))) Try.underlying49 Try.sizeOf56 rfl rfl ⟨by omega, by omega⟩) ?_
    refine X.opw X.wN rfl (X.loadSN Try.isAgg56 Try.sizeOf56 (((hs0.keep hk1).keep hk2).ext hx4 (fun k h1 h2 h3 => by have h3 : k = rb := h3; exact hrT (by rw [← h3]; exact hloT k h1 h2))) hx rfl (fun _ h => h.1) rfl) ?_
    refine X.opE X.wN rfl (X.callE (front_c x _ (show ReIn TB _ rb { s0 with h := s0.h + 1 } from ⟨A, n, c, hs, lo, hi0, hB4, (((hs0.keep hk1).keep hk2).ext hx4 (fun k h1 h2 h3 => by have h3 : k = rb := h3; exact hrT (by rw [← h3]; exact hloT k h1 h2))), hloT, by omega, hnc, (((hps.keep hk1).keep hk2).ext hx4 (fun k h1 h2 => by have h2 : k = rb := h2; exact hrT (by rw [← h2]; exact h1))), hrT, fun k h => by have := hTw k h; omega⟩) hqT ((((hsq.keep hk1).keep hk2).ext hx4 (fun k h1 h2 h3 => by have h3 : k = rb := h3; exact hrT (by rw [← h3]; exact hqT k h1 h2)))) hLn) Try.call39 rfl rfl) ?_
    rintro _ w5 ⟨rfl, ⟨A5, n5, c5, hs5, lo5, hi5, hB5, hsl5, hlo5, hhi5, hnc5, hps5, hrT5, hTw5⟩, hx5⟩
    have hx5' := hx5.size
    refine X.opsEnd ?_
    refine X.seq ?_
    refine X.region ?_
    refine X.opw X.wN rfl (X.move rfl) ?_
    refine X.opw X.wN rfl (X.nilCk rfl) ?_
    refine X.opw X.wN rfl (X.fldB (j := 1) Try.underlying51 rfl rfl Try.sizeOf49 rfl) ?_
    refine X.opw X.wN rfl (X.load1B Try.isAgg49 hB5 rfl rfl) ?_
    have hl5 := hsl5.len
    obtain ⟨xz, hxz⟩ := getL (l := hs5) 0 rfl (by rw [hps5.len]; simp)
    obtain ⟨hxq5, lo6, hi6, hT6, hsq5⟩ := hps5.get 0 xz (x.1, p) hxz rfl
    have hn5 : 0 < n5 := by rw [← hl5, hps5.len]; simp
    refine X.opw X.wN rfl (X.idxS hsl5 Try.underlying49 Try.sizeOf56 rfl rfl ⟨by omega, by omega⟩) ?_
    refine X.opw X.wN rfl (X.fldA Try.underlying56 rfl rfl Try.sizeOf33) ?_
    refine X.opw X.wN rfl (X.loadSf Try.isAgg33 hsl5 hxz rfl (fun _ h => by rw [h.1]; rfl)) ?_
    refine X.opE X.wN rfl (X.callE (Copy_e _ (sl_narC hsq5 (fun k a b => hTw5 k (hT6 k a b))) (by omega) hokp) Try.call20 rfl rfl) ?_
    rintro _ w6 ⟨Ac, cc, rfl, hsc, hk6⟩
    have hk6' := hk6.size
    refine X.opw X.wN rfl (X.assign rfl) ?_
    refine X.opw X.wN rfl (X.assign rfl) ?_
    refine X.opsEnd ?_
    refine X.ret2 (v2 := (.bool _)) Try.func30 Try.results30 rfl rfl ?_
    have hget : s0.get k = { s0 with h := s0.h + 1, L := (x.1, p) :: s0.L.filter fun q => decide (q.1 ≠ x.1) } := by rw [hxq]; simp only [Ca.get, hap]
    rw [hget, hap]
    exact ⟨Ac, cc, rfl, hsc.wide (by omega) (by omega), ⟨A5, n5, c5, hs5, lo5, hi5, (hB5.keep hk6), (hsl5.keep hk6), fun k a b => (hlo5 k a b).imp id (fun h => ⟨by omega, by omega⟩), by omega, hnc5, ((hps5.keep hk6)).mono (fun k h => h.imp id (fun h => ⟨by omega, by omega⟩)), fun h => h.elim hrT (fun h => by omega), fun k h => h.elim (fun h => by have := hTw k h; omega) (fun h => h.2)⟩, (Ext.andThen (Ext.andThen (Ext.andThen (Ext.andThen (Ext.andThen (Ext.refl (fun q => q = rb) _) hk1 (by intro q h1 h2; first | exact (h2 : False).elim | exact h2 | (exfalso; have h2 : w.heap.size ≤ q := h2; omega))) hk2 (by intro q h1 h2; first | exact (h2 : False).elim | exact h2 | (exfalso; have h2 : w.heap.size ≤ q := h2; omega))) hx4 (by intro q h1 h2; first | exact (h2 : False).elim | exact h2 | (exfalso; have h2 : w.heap.size ≤ q := h2; omega))) hx5 (by intro q h1 h2; first | exact (h2 : False).elim | exact h2 | (exfalso; have h2 : w.heap.size ≤ q := h2; omega))) hk6 (by intro q h1 h2; first | exact (h2 : False).elim | exact h2 | (exfalso; have h2 : w.heap.size ≤ q := h2; omega)))⟩
-- f31 "(*pedigree/pedigreeref08.Cache).Put" params [39, 30, 33] results [] -> [] nfree 0 ntmps 48 names ["c",
set_option maxHeartbeats 4000000 in
set_option maxRecDepth 100000 in
theorem RPut_c {TB : Nat → Prop} {rb : Nat} {s0 : Ca} (k : PKEY) (w : World) (hR : ReIn TB w rb s0) {A2 : Option Addr} {n2 c2 lo2 hi2 : Nat} {pg : List CD} (hpg : Sl KC lo2 hi2 w A2 n2 pg) (hhi2 : hi2 ≤ w.heap.size) (hok : okPg pg) (hLn : s0.L.length ≤ 10000) (hg : -1000000 ≤ s0.g ∧ s0.g ≤ 1000000) (hrm : 0 ≤ s0.room) (hlr : (s0.L.length : Int) ≤ s0.room) : Ret Try.prog 31 #[ptrV rb, encPK k, .slice A2 n2 c2] w fun r w' => r = .tuple #[] ∧ ReIn (fun q => TB q ∨ (w.heap.size ≤ q ∧ q < w'.heap.size)) w' rb (s0.put k pg) ∧ Ext (fun q => q = rb) w w' := by
  obtain ⟨A, n, c, hs, lo, hi0, hB, hs0, hloT, hhi, hnc, hps, hrT, hTw⟩ := hR
  have hl := hs0.len
  have hbd := hs0.bound
  have hpl := hps.len
  have hrb := hB.lt
  refine X.enter Try.func31 rfl Try.ntmps31 rfl ?_
  refine X.seq ?_
  refine X.region ?_
  refine X.opE X.wN rfl (X.boxE rfl rfl) ?_
  rintro _ w1 ⟨rfl, hB1, hk1, hz1⟩
  refine X.opsEnd ?_
  refine X.seq ?_
  refine X.seq ?_
  refine X.region ?_
  refine X.opw X.wN rfl (X.move rfl) ?_
  refine X.opw X.wN rfl (X.nilCk rfl) ?_
  refine X.opw X.wN rfl (X.fldB (j := 0) Try.underlying51 rfl rfl Try.sizeOf3 rfl) ?_
  refine X.opw X.wN rfl (X.load1B Try.isAgg3 (hB.keep hk1) rfl rfl) ?_
  refine X.opP X.wN rfl rfl (X.eqI rfl rfl) (fun h10 => ?_) (fun h10 => ?_)
  · refine X.opsEnd ?_
    refine X.condT rfl ?_
    refine X.ret0 Try.func31 Try.results31 ?_
    have h0 : s0.room = 0 := by omega
    rw [show s0.put k pg = s0 by rw [Ca.put, if_pos h0]]
    exact ⟨rfl, ReIn.grow (show ReIn TB _ rb s0 from ⟨A, n, c, hs, lo, hi0, (hB.keep hk1), (hs0.keep hk1), hloT, by omega, hnc, (hps.keep hk1), hrT, fun k h => by have := hTw k h; omega⟩) (fun k h => .inl h) (fun h => h.elim hrT (fun h => by omega)) (fun k h => h.elim (fun h => by have := hTw k h; omega) (fun h => h.2)), (Ext.andThen (Ext.refl (fun q => q = rb) _) hk1 (by intro q h1 h2; first | exact (h2 : False).elim | exact h2 | (exfalso; have h2 : w.heap.size ≤ q := h2; omega)))⟩
  · refine X.opsEnd ?_
    refine X.condF rfl ?_
    refine X.skip ?_
    refine X.seq ?_
    refine X.regionD (fun _ => False) 5 (by kernel_rfl) (by kernel_rfl) (fun w2 hk2 hz2 => ?_)
    refine X.dTake 0 rfl (by kernel_rfl) (by kernel_rfl) (by kernel_rfl) (X.dwN rfl) (fun w' hk' => X.move rfl) ?_
    refine X.dTwo (i := 1) (j := 2) (by kernel_rfl) ?_ ?_
    · refine X.d1Step (i := 1) rfl (X.dwN rfl) (X.loadNB Try.isAgg30 Try.sizeOf30 (hB1.keep hk2) rfl rfl rfl) (fun _ => Ext.refl _ _) ?_
      refine X.dStep (i := 2) (by kernel_rfl) rfl (X.dwN rfl) (X.move rfl) (fun _ => Ext.refl _ _) ?_
      refine X.dE (i := 3) (by kernel_rfl) rfl (X.dwN rfl) (X.callE (Copy_e _ ((hpg.keep (hk1.trans hk2))) (by omega) hok) Try.call20 rfl rfl) (by rintro _ w3 ⟨Ac, cc, rfl, hsc, hk3⟩ _; exact hk3.mono (fun _ _ h => h.elim)) ?_
      rintro _ w3 ⟨Ac, cc, rfl, hsc, hk3⟩
      have hk3' := hk3.size
      refine X.dTake 4 rfl (by kernel_rfl) (by kernel_rfl) (by kernel_rfl) (X.dwN rfl) (fun w' hk' => X.buildB (vs := [(0, encPK k), (1, .slice Ac pg.length cc)]) (cs := #[.string k.1, .int .i64 k.2, .slice Ac pg.length cc]) rfl (by kernel_rfl)) ?_
      refine X.dE (i := 5) (by kernel_rfl) rfl (X.dwN rfl) (X.callE (front_e (k, Ac, pg.length, cc) _ (ReIn.grow (TC := fun q => TB q ∨ (w.heap.size ≤ q ∧ q < w3.heap.size)) (show ReIn TB _ rb s0 from ⟨A, n, c, hs, lo, hi0, (hB.keep ((hk1.trans hk2).trans hk3)), (((hs0.keep hk1).keep hk2).keep hk3), hloT, by omega, hnc, (((hps.keep hk1).keep hk2).keep hk3), hrT, fun k h => by have := hTw k h; omega⟩) (fun k h => .inl h) (fun h => h.elim hrT (fun h => by omega)) (fun k h => h.elim (fun h => by have := hTw k h; omega) (fun h => h.2))) (fun k h1 h2 => .inr ⟨by omega, by omega⟩) hsc hLn) Try.call39 rfl rfl) (fun _ _ _ h => absurd h (by decide)) ?_
      rintro _ w4 ⟨rfl, ⟨A5, n5, c5, hs5, lo5, hi5, hB5, hsl5, hlo5, hhi5, hnc5, hps5, hrT5, hTw5⟩, hx4⟩
      have hx4' := hx4.size
      refine X.dEnd (by kernel_rfl) ?_
      refine X.seq ?_
      refine X.regionD (fun _ => False) 10 (by kernel_rfl) (by kernel_rfl) (fun w5 hk5 hz5 => ?_)
      refine X.dTake 0 rfl (by kernel_rfl) (by kernel_rfl) (by kernel_rfl) (X.dwN rfl) (fun w' hk' => X.move rfl) ?_
      refine X.dTake 1 rfl (by kernel_rfl) (by kernel_rfl) (by kernel_rfl) (X.dwN rfl) (fun w' hk' => X.nilCk rfl) ?_
      refine X.dTake 2 rfl (by kernel_rfl) (by kernel_rfl) (by kernel_rfl) (X.dwN rfl) (fun w' hk' => X.fldB (j := 1) Try.underlying51 rfl rfl Try.sizeOf49 rfl) ?_
      refine X.dTake 3 rfl (by kernel_rfl) (by kernel_rfl) (by kernel_rfl) (X.dwN rfl) (fun w' hk' => X.load1B Try.isAgg49 (hB5.keep (hk5.trans hk')) rfl rfl) ?_
      refine X.dTake 4 rfl (by kernel_rfl) (by kernel_rfl) (by kernel_rfl) (X.dwN rfl) (fun w' hk' => X.lenSl Try.underlying49 rfl) ?_
      refine X.dTake 5 rfl (by kernel_rfl) (by kernel_rfl) (by kernel_rfl) (X.dwN rfl) (fun w' hk' => X.move rfl) ?_
      refine X.dTake 6 rfl (by kernel_rfl) (by kernel_rfl) (by kernel_rfl) (X.dwN rfl) (fun w' hk' => X.nilCk rfl) ?_
      refine X.dTake 7 rfl (by kernel_rfl) (by kernel_rfl) (by kernel_rfl) (X.dwN rfl) (fun w' hk' => X.fldB (j := 0) Try.underlying51 rfl rfl Try.sizeOf3 rfl) ?_
      refine X.dTake 8 rfl (by kernel_rfl) (by kernel_rfl) (by kernel_rfl) (X.dwN rfl) (fun w' hk' => X.load1B Try.isAgg3 (hB5.keep (hk5.trans hk')) rfl rfl) ?_
      refine X.dTake 9 rfl (by kernel_rfl) (by kernel_rfl) (by kernel_rfl) (X.dwN rfl) (fun w' hk' => X.gtr rfl rfl) ?_
      refine X.dEnd (by kernel_rfl) ?_
      refine X.condB rfl (fun hc => ?_) (fun hc => ?_)
      · have hl5 := hsl5.len
        have hc2 : s0.room < (n5 : Int) := by simpa using hc
        refine X.seq ?_
        refine X.regionD (fun _ => False) 10 (by kernel_rfl) (by kernel_rfl) (fun w6 hk6 hz6 => ?_)
        refine X.dTake 0 rfl (by kernel_rfl) (by kernel_rfl) (by kernel_rfl) (X.dwN rfl) (fun w' hk' => X.move rfl) ?_
        refine X.dTake 1 rfl (by kernel_rfl) (by kernel_rfl) (by kernel_rfl) (X.dwN rfl) (fun w' hk' => X.move rfl) ?_
        refine X.dTake 2 rfl (by kernel_rfl) (by kernel_rfl) (by kernel_rfl) (X.dwN rfl) (fun w' hk' => X.nilCk rfl) ?_
        refine X.dTake 3 rfl (by kernel_rfl) (by kernel_rfl) (by kernel_rfl) (X.dwN rfl) (fun w' hk' => X.fldB (j := 1) Try.underlying51 rfl rfl Try.sizeOf49 rfl) ?_
        refine X.dTake 4 rfl (by kernel_rfl) (by kernel_rfl) (by kernel_rfl) (X.dwN rfl) (fun w' hk' => X.load1B Try.isAgg49 (hB5.keep ((hk5.trans hk6).trans hk')) rfl rfl) ?_
        refine X.dTake 5 rfl (by kernel_rfl) (by kernel_rfl) (by kernel_rfl) (X.dwN rfl) (fun w' hk' => X.move rfl) ?_
        refine X.dTake 6 rfl (by kernel_rfl) (by kernel_rfl) (by kernel_rfl) (X.dwN rfl) (fun w' hk' => X.nilCk rfl) ?_
        refine X.dTake 7 rfl (by kernel_rfl) (by kernel_rfl) (by kernel_rfl) (X.dwN rfl) (fun w' hk' => X.fldB (j := 0) Try.underlying51 rfl rfl Try.sizeOf3 rfl) ?_
        refine X.dTake 8 rfl (by kernel_rfl) (by kernel_rfl) (by kernel_rfl) (X.dwN rfl) (fun w' hk' => X.load1B Try.isAgg3 (hB5.keep ((hk5.trans hk6).trans hk')) rfl rfl) ?_
        refine X.dTake 9 rfl (by kernel_rfl) (by kernel_rfl) (by kernel_rfl) (X.dwN rfl) (fun w' hk' => X.cutHr Try.underlying49 Try.sizeOf56 rfl rfl (by omega)) ?_
        refine X.dStep (i := 10) (by kernel_rfl) rfl (X.dwN rfl) (X.nilCk rfl) (fun h => absurd h (by decide)) ?_
        refine X.dStep (i := 11) (by kernel_rfl) rfl (X.dwN rfl) (X.fldB (j := 1) Try.underlying51 rfl rfl Try.sizeOf49 rfl) (fun h => absurd h (by decide)) ?_
        refine X.dE (i := 12) (by kernel_rfl) rfl (X.dwN rfl) (X.storeE Try.sizeOf49 (hB5.keep (hk5.trans hk6)) rfl rfl rfl rfl) (fun _ _ _ h => absurd h (by decide)) ?_
        rintro _ w7 ⟨hB7, hx7, hz7⟩
        refine X.dEnd (by kernel_rfl) ?_
        refine X.region ?_
        refine X.opw X.wN rfl (X.move rfl) ?_
        refine X.opw X.wN rfl (X.nilCk rfl) ?_
        refine X.opw X.wN rfl (X.fldB (j := 2) Try.underlying51 rfl rfl Try.sizeOf47 rfl) ?_
        refine X.opw X.wN rfl (X.fldB (j := 4) Try.underlying47 rfl rfl Try.sizeOf3 rfl) ?_
        refine X.opw X.wN rfl (X.load1B Try.isAgg3 hB7 rfl rfl) ?_
        refine X.opw X.wN rfl (X.add (c := s0.g + 1) rfl rfl (X.w_i64 (by omega))) ?_
        refine X.opw X.wN rfl (X.nilCk rfl) ?_
        refine X.opw X.wN rfl (X.fldB (j := 2) Try.underlying51 rfl rfl Try.sizeOf47 rfl) ?_
        refine X.opw X.wN rfl (X.fldB (j := 4) Try.underlying47 rfl rfl Try.sizeOf3 rfl) ?_
        refine X.opE X.wN rfl (X.storeE Try.sizeOf3 hB7 rfl rfl rfl rfl) ?_
        rintro _ w8 ⟨hB8, hx8, hz8⟩
        refine X.opsEnd ?_
        refine X.end0 Try.func31 Try.results31 ?_
        have hput := put_take (s := s0) (k := k) (p := pg) (by omega) hlr (by rw [← hps5.len, hl5]; exact hc2)
        rw [hput]
        exact ⟨rfl, ⟨A5, s0.room.toNat, c5, hs5.take s0.room.toNat, lo5, hi5, hB8, (((((hsl5.keep hk5).keep hk6).ext hx7 (fun k h1 h2 h3 => by have h3 : k = rb := h3; exact hrT5 (by rw [← h3]; exact hlo5 k h1 h2))).ext hx8 (fun k h1 h2 h3 => by have h3 : k = rb := h3; exact hrT5 (by rw [← h3]; exact hlo5 k h1 h2)))).take _ (by omega), fun k a b => (fun k h => h.elim (fun h => h.imp id (fun h => ⟨by omega, by omega⟩)) (fun h => .inr ⟨by omega, by omega⟩)) k (hlo5 k a b), by omega, by omega, ((((((hps5.keep hk5).keep hk6).ext hx7 (fun k h1 h2 => by have h2 : k = rb := h2; exact hrT5 (by rw [← h2]; exact h1))).ext hx8 (fun k h1 h2 => by have h2 : k = rb := h2; exact hrT5 (by rw [← h2]; exact h1)))).mono (fun k h => h.elim (fun h => h.imp id (fun h => ⟨by omega, by omega⟩)) (fun h => .inr ⟨by omega, by omega⟩))).take _, fun h => h.elim hrT (fun h => by omega), fun k h => h.elim (fun h => by have := hTw k h; omega) (fun h => h.2)⟩, (Ext.andThen (Ext.andThen (Ext.andThen (Ext.andThen (Ext.andThen (Ext.andThen (Ext.andThen (Ext.andThen (Ext.refl (fun q => q = rb) _) hk1 (by intro q h1 h2; first | exact (h2 : False).elim | exact h2 | (exfalso; have h2 : w.heap.size ≤ q := h2; omega))) hk2 (by intro q h1 h2; first | exact (h2 : False).elim | exact h2 | (exfalso; have h2 : w.heap.size ≤ q := h2; omega))) hk3 (by intro q h1 h2; first | exact (h2 : False).elim | exact h2 | (exfalso; have h2 : w.heap.size ≤ q := h2; omega))) hx4 (by intro q h1 h2; first | exact (h2 : False).elim | exact h2 | (exfalso; have h2 : w.heap.size ≤ q := h2; omega))) hk5 (by intro q h1 h2; first | exact (h2 : False).elim | exact h2 | (exfalso; have h2 : w.heap.size ≤ q := h2; omega))) hk6 (by intro q h1 h2; first | exact (h2 : False).elim | exact h2 | (exfalso; have h2 : w.heap.size ≤ q := h2; omega))) hx7 (by intro q h1 h2; first | exact (h2 : False).elim | exact h2 | (exfalso; have h2 : w.heap.size ≤ q := h2; omega))) hx8 (by intro q h1 h2; first | exact (h2 : False).elim | exact h2 | (exfalso; have h2 : w.heap.size ≤ q := h2; omega)))⟩
      · have hl5 := hsl5.len
        have hc2 : ¬ s0.room < (n5 : Int) := by simpa using hc
        refine X.skip ?_
        refine X.end0 Try.func31 Try.results31 ?_
        have hput : s0.put k pg = { s0 with L := (k, pg) :: s0.L.filter fun q => decide (q.1 ≠ k) } := by rw [Ca.put, if_neg (by omega), if_neg (by rw [← hps5.len, hl5]; exact hc2)]
        rw [hput]
        exact ⟨rfl, ⟨A5, n5, c5, hs5, lo5, hi5, (hB5.keep hk5), (hsl5.keep hk5), fun k a b => (fun k h => h.elim (fun h => h.imp id (fun h => ⟨by omega, by omega⟩)) (fun h => .inr ⟨by omega, by omega⟩)) k (hlo5 k a b), by omega, hnc5, ((hps5.keep hk5)).mono (fun k h => h.elim (fun h => h.imp id (fun h => ⟨by omega, by omega⟩)) (fun h => .inr ⟨by omega, by omega⟩)), fun h => h.elim hrT (fun h => by omega), fun k h => h.elim (fun h => by have := hTw k h; omega) (fun h => h.2)⟩, (Ext.andThen (Ext.andThen (Ext.andThen (Ext.andThen (Ext.andThen (Ext.refl (fun q => q = rb) _) hk1 (by intro q h1 h2; first | exact (h2 : False).elim | exact h2 | (exfalso; have h2 : w.heap.size ≤ q := h2; omega))) hk2 (by intro q h1 h2; first | exact (h2 : False).elim | exact h2 | (exfalso; have h2 : w.heap.size ≤ q := h2; omega))) hk3 (by intro q h1 h2; first | exact (h2 : False).elim | exact h2 | (exfalso; have h2 : w.heap.size ≤ q := h2; omega))) hx4 (by intro q h1 h2; first | exact (h2 : False).elim | exact h2 | (exfalso; have h2 : w.heap.size ≤ q := h2; omega))) hk5 (by intro q h1 h2; first | exact (h2 : False).elim | exact h2 | (exfalso; have h2 : w.heap.size ≤ q := h2; omega)))⟩
    · refine X.d1Step (i := 2) rfl (X.dwN rfl) (X.move rfl) (fun _ => Ext.refl _ _) ?_
      refine X.dTwo (i := 1) (j := 3) (by kernel_rfl) ?_ ?_
      · refine X.d1Step (i := 1) rfl (X.dwN rfl) (X.loadNB Try.isAgg30 Try.sizeOf30 (hB1.keep hk2) rfl rfl rfl) (fun _ => Ext.refl _ _) ?_
        refine X.dE (i := 3) (by kernel_rfl) rfl (X.dwN rfl) (X.callE (Copy_e _ ((hpg.keep (hk1.trans hk2))) (by omega) hok) Try.call20 rfl rfl) (by rintro _ w9 ⟨Ac, cc, rfl, hsc, hk9⟩ _; exact hk9.mono (fun _ _ h => h.elim)) ?_
        rintro _ w9 ⟨Ac, cc, rfl, hsc, hk9⟩
        have hk9' := hk9.size
        refine X.dTake 4 rfl (by kernel_rfl) (by kernel_rfl) (by kernel_rfl) (X.dwN rfl) (fun w' hk' => X.buildB (vs := [(0, encPK k), (1, .slice Ac pg.length cc)]) (cs := #[.string k.1, .int .i64 k.2, .slice Ac pg.length cc]) rfl (by kernel_rfl)) ?_
        refine X.dE (i := 5) (by kernel_rfl) rfl (X.dwN rfl) (X.callE (front_e (k, Ac, pg.length, cc) _ (ReIn.grow (TC := fun q => TB q ∨ (w.heap.size ≤ q ∧ q < w9.heap.size)) (show ReIn TB _ rb s0 from ⟨A, n, c, hs, lo, hi0, (hB.keep ((hk1.trans hk2).trans hk9)), (((hs0.keep hk1).keep hk2).keep hk9), hloT, by omega, hnc, (((hps.keep hk1).keep hk2).keep hk9), hrT, fun k h => by have := hTw k h; omega⟩) (fun k h => .inl h) (fun h => h.elim hrT (fun h => by omega)) (fun k h => h.elim (fun h => by have := hTw k h; omega) (fun h => h.2))) (fun k h1 h2 => .inr ⟨by omega, by omega⟩) hsc hLn) Try.call39 rfl rfl) (fun _ _ _ h => absurd h (by decide)) ?_
        rintro _ w10 ⟨rfl, ⟨A5, n5, c5, hs5, lo5, hi5, hB5, hsl5, hlo5, hhi5, hnc5, hps5, hrT5, hTw5⟩, hx10⟩
        have hx10' := hx10.size
        refine X.dEnd (by kernel_rfl) ?_
        refine X.seq ?_
        refine X.regionD (fun _ => False) 10 (by kernel_rfl) (by kernel_rfl) (fun w11 hk11 hz11 => ?_)
        refine X.dTake 0 rfl (by kernel_rfl) (by kernel_rfl) (by kernel_rfl) (X.dwN rfl) (fun w' hk' => X.move rfl) ?_
        refine X.dTake 1 rfl (by kernel_rfl) (by kernel_rfl) (by kernel_rfl) (X.dwN rfl) (fun w' hk' => X.nilCk rfl) ?_
        refine X.dTake 2 rfl (by kernel_rfl) (by kernel_rfl) (by kernel_rfl) (X.dwN rfl) (fun w' hk' => X.fldB (j := 1) Try.underlying51 rfl rfl Try.sizeOf49 rfl) ?_
        refine X.dTake 3 rfl (by kernel_rfl) (by kernel_rfl) (by kernel_rfl) (X.dwN rfl) (fun w' hk' => X.load1B Try.isAgg49 (hB5.keep (hk11.trans hk')) rfl rfl) ?_
        refine X.dTake 4 rfl (by kernel_rfl) (by kernel_rfl) (by kernel_rfl) (X.dwN rfl) (fun w' hk' => X.lenSl Try.underlying49 rfl) ?_
        refine X.dTake 5 rfl (by kernel_rfl) (by kernel_rfl) (by kernel_rfl) (X.dwN rfl) (fun w' hk' => X.move rfl) ?_
        refine X.dTake 6 rfl (by kernel_rfl) (by kernel_rfl) (by kernel_rfl) (X.dwN rfl) (fun w' hk' => X.nilCk rfl) ?_
        refine X.dTake 7 rfl (by kernel_rfl) (by kernel_rfl) (by kernel_rfl) (X.dwN rfl) (fun w' hk' => X.fldB (j := 0) Try.underlying51 rfl rfl Try.sizeOf3 rfl) ?_
        refine X.dTake 8 rfl (by kernel_rfl) (by kernel_rfl) (by kernel_rfl) (X.dwN rfl) (fun w' hk' => X.load1B Try.isAgg3 (hB5.keep (hk11.trans hk')) rfl rfl) ?_
        refine X.dTake 9 rfl (by kernel_rfl) (by kernel_rfl) (by kernel_rfl) (X.dwN rfl) (fun w' hk' => X.gtr rfl rfl) ?_
        refine X.dEnd (by kernel_rfl) ?_
        refine X.condB rfl (fun hc => ?_) (fun hc => ?_)
        · have hl5 := hsl5.len
          have hc2 : s0.room < (n5 : Int) := by simpa using hc
          refine X.seq ?_
          refine X.regionD (fun _ => False) 10 (by kernel_rfl) (by kernel_rfl) (fun w12 hk12 hz12 => ?_)
          refine X.dTake 0 rfl (by kernel_rfl) (by kernel_rfl) (by kernel_rfl) (X.dwN rfl) (fun w' hk' => X.move rfl) ?_
          refine X.dTake 1 rfl (by kernel_rfl) (by kernel_rfl) (by kernel_rfl) (X.dwN rfl) (fun w' hk' => X.move rfl) ?_
          refine X.dTake 2 rfl (by kernel_rfl) (by kernel_rfl) (by kernel_rfl) (X.dwN rfl) (fun w' hk' => X.nilCk rfl) ?_
          refine X.dTake 3 rfl (by kernel_rfl) (by kernel_rfl) (by kernel_rfl) (X.dwN rfl) (fun w' hk' => X.fldB (j := 1) Try.underlying51 rfl rfl Try.sizeOf49 rfl) ?_
          refine X.dTake 4 rfl (by kernel_rfl) (by kernel_rfl) (by kernel_rfl) (X.dwN rfl) (fun w' hk' => X.load1B Try.isAgg49 (hB5.keep ((hk11.trans hk12).trans hk')) rfl rfl) ?_
          refine X.dTake 5 rfl (by kernel_rfl) (by kernel_rfl) (by kernel_rfl) (X.dwN rfl) (fun w' hk' => X.move rfl) ?_
          refine X.dTake 6 rfl (by kernel_rfl) (by kernel_rfl) (by kernel_rfl) (X.dwN rfl) (fun w' hk' => X.nilCk rfl) ?_
          refine X.dTake 7 rfl (by kernel_rfl) (by kernel_rfl) (by kernel_rfl) (X.dwN rfl) (fun w' hk' => X.fldB (j := 0) Try.underlying51 rfl rfl Try.sizeOf3 rfl) ?_
          refine X.dTake 8 rfl (by kernel_rfl) (by kernel_rfl) (by kernel_rfl) (X.dwN rfl) (fun w' hk' => X.load1B Try.isAgg3 (hB5.keep ((hk11.trans hk12).trans hk')) rfl rfl) ?_
          refine X.dTake 9 rfl (by kernel_rfl) (by kernel_rfl) (by kernel_rfl) (X.dwN rfl) (fun w' hk' => X.cutHr Try.underlying49 Try.sizeOf56 rfl rfl (by omega)) ?_
          refine X.dStep (i := 10) (by kernel_rfl) rfl (X.dwN rfl) (X.nilCk rfl) (fun h => absurd h (by decide)) ?_
          refine X.dStep (i := 11) (by kernel_rfl) rfl (X.dwN rfl) (X.fldB (j := 1) Try.underlying51 rfl rfl Try.sizeOf49 rfl) (fun h => absurd h (by decide)) ?_
          refine X.dE (i := 12) (by kernel_rfl) rfl (X.dwN rfl) (X.storeE Try.sizeOf49 (hB5.keep (hk11.trans hk12)) rfl rfl rfl rfl) (fun _ _ _ h => absurd h (by decide)) ?_
          rintro _ w13 ⟨hB13, hx13, hz13⟩
          refine X.dEnd (by kernel_rfl) ?_
          refine X.region ?_
          refine X.opw X.wN rfl (X.move rfl) ?_
          refine X.opw X.wN rfl (X.nilCk rfl) ?_
          refine X.opw X.wN rfl (X.fldB (j := 2) Try.underlying51 rfl rfl Try.sizeOf47 rfl) ?_
          refine X.opw X.wN rfl (X.fldB (j := 4) Try.underlying47 rfl rfl Try.sizeOf3 rfl) ?_
          refine X.opw X.wN rfl (X.load1B Try.isAgg3 hB13 rfl rfl) ?_
          refine X.opw X.wN rfl (X.add (c := s0.g + 1) rfl rfl (X.w_i64 (by omega))) ?_
          refine X.opw X.wN rfl (X.nilCk rfl) ?_
          refine X.opw X.wN rfl (X.fldB (j := 2) Try.underlying51 rfl rfl Try.sizeOf47 rfl) ?_
          refine X.opw X.wN rfl (X.fldB (j := 4) Try.underlying47 rfl rfl Try.sizeOf3 rfl) ?_
          refine X.opE X.wN rfl (X.storeE Try.sizeOf3 hB13 rfl rfl rfl rfl) ?_
          rintro _ w14 ⟨hB14, hx14, hz14⟩
          refine X.opsEnd ?_
          refine X.end0 Try.func31 Try.results31 ?_
          have hput := put_take (s := s0) (k := k) (p := pg) (by omega) hlr (by rw [← hps5.len, hl5]; exact hc2)
          rw [hput]
          exact ⟨rfl, ⟨A5, s0.room.toNat, c5, hs5.take s0.room.toNat, lo5, hi5, hB14, (((((hsl5.keep hk11).keep hk12).ext hx13 (fun k h1 h2 h3 => by have h3 : k = rb := h3; exact hrT5 (by rw [← h3]; exact hlo5 k h1 h2))).ext hx14 (fun k h1 h2 h3 => by have h3 : k = rb := h3; exact hrT5 (by rw [← h3]; exact hlo5 k h1 h2)))).take _ (by omega), fun k a b => (fun k h => h.elim (fun h => h.imp id (fun h => ⟨by omega, by omega⟩)) (fun h => .inr ⟨by omega, by omega⟩)) k (hlo5 k a b), by omega, by omega, ((((((hps5.keep hk11).keep hk12).ext hx13 (fun k h1 h2 => by have h2 : k = rb := h2; exact hrT5 (by rw [← h2]; exact h1))).ext hx14 (fun k h1 h2 => by have h2 : k = rb := h2; exact hrT5 (by rw [← h2]; exact h1)))).mono (fun k h => h.elim (fun h => h.imp id (fun h => ⟨by omega, by omega⟩)) (fun h => .inr ⟨by omega, by omega⟩))).take _, fun h => h.elim hrT (fun h => by omega), fun k h => h.elim (fun h => by have := hTw k h; omega) (fun h => h.2)⟩, (Ext.andThen (Ext.andThen (Ext.andThen (Ext.andThen (Ext.andThen (Ext.andThen (Ext.andThen (Ext.andThen (Ext.refl (fun q => q = rb) _) hk1 (by intro q h1 h2; first | exact (h2 : False).elim | exact h2 | (exfalso; have h2 : w.heap.size ≤ q := h2; omega))) hk2 (by intro q h1 h2; first | exact (h2 : False).elim | exact h2 | (exfalso; have h2 : w.heap.size ≤ q := h2; omega))) hk9 (by intro q h1 h2; first | exact (h2 : False).elim | exact h2 | (exfalso; have h2 : w.heap.size ≤ q := h2; omega))) hx10 (by intro q h1 h2; first | exact (h2 : False).elim | exact h2 | (exfalso; have h2 : w.heap.size ≤ q := h2; omega))) hk11 (by intro q h1 h2; first | exact (h2 : False).elim | exact h2 | (exfalso; have h2 : w.heap.size ≤ q := h2; omega))) hk12 (by intro q h1 h2; first | exact (h2 : False).elim | exact h2 | (exfalso; have h2 : w.heap.size ≤ q := h2; omega))) hx13 (by intro q h1 h2; first | exact (h2 : False).elim | exact h2 | (exfalso; have h2 : w.heap.size ≤ q := h2; omega))) hx14 (by intro q h1 h2; first | exact (h2 : False).elim | exact h2 | (exfalso; have h2 : w.heap.size ≤ q := h2; omega)))⟩
        · have hl5 := hsl5.len
          have hc2 : ¬ s0.room < (n5 : Int) := by simpa using hc
          refine X.skip ?_
          refine X.end0 Try.func31 Try.results31 ?_
          have hput : s0.put k pg = { s0 with L := (k, pg) :: s0.L.filter fun q => decide (q.1 ≠ k) } := by rw [Ca.put, if_neg (by omega), if_neg (by rw [← hps5.len, hl5]; exact hc2)]
          rw [hput]
          exact ⟨rfl, ⟨A5, n5, c5, hs5, lo5, hi5, (hB5.keep hk11), (hsl5.keep hk11), fun k a b => (fun k h => h.elim (fun h => h.imp id (fun h => ⟨by omega, by omega⟩)) (fun h => .inr ⟨by omega, by omega⟩)) k (hlo5 k a b), by omega, hnc5, ((hps5.keep hk11)).mono (fun k h => h.elim (fun h => h.imp id (fun h => ⟨by omega, by omega⟩)) (fun h => .inr ⟨by omega, by omega⟩)), fun h => h.elim hrT (fun h => by omega), fun k h => h.elim (fun h => by have := hTw k h; omega) (fun h => h.2)⟩, (Ext.andThen (Ext.andThen (Ext.andThen (Ext.andThen (Ext.andThen (Ext.refl (fun q => q = rb) _) hk1 (by intro q h1 h2; first | exact (h2 : False).elim | exact h2 | (exfalso; have h2 : w.heap.size ≤ q := h2; omega))) hk2 (by intro q h1 h2; first | exact (h2 : False).elim | exact h2 | (exfalso; have h2 : w.heap.size ≤ q := h2; omega))) hk9 (by intro q h1 h2; first | exact (h2 : False).elim | exact h2 | (exfalso; have h2 : w.heap.size ≤ q := h2; omega))) hx10 (by intro q h1 h2; first | exact (h2 : False).elim | exact h2 | (exfalso; have h2 : w.heap.size ≤ q := h2; omega))) hk11 (by intro q h1 h2; first | exact (h2 : False).elim | exact h2 | (exfalso; have h2 : w.heap.size ≤ q := h2; omega)))⟩
      · refine X.d1E (i := 3) rfl (X.dwN rfl) (X.callE (Copy_e _ ((hpg.keep (hk1.trans hk2))) (by omega) hok) Try.call20 rfl rfl) (by rintro _ w15 ⟨Ac, cc, rfl, hsc, hk15⟩ _; exact hk15.mono (fun _ _ h => h.elim)) ?_
        rintro _ w15 ⟨Ac, cc, rfl, hsc, hk15⟩
        have hk15' := hk15.size
        refine X.dStep (i := 1) (by kernel_rfl) rfl (X.dwN rfl) (X.loadNB Try.isAgg30 Try.sizeOf30 (hB1.keep (hk2.trans hk15)) rfl rfl rfl) (fun _ => Ext.refl _ _) ?_
        refine X.dTake 4 rfl (by kernel_rfl) (by kernel_rfl) (by kernel_rfl) (X.dwN rfl) (fun w' hk' => X.buildB (vs := [(0, encPK k), (1, .slice Ac pg.length cc)]) (cs := #[.string k.1, .int .i64 k.2, .slice Ac pg.length cc]) rfl (by kernel_rfl)) ?_
        refine X.dE (i := 5) (by kernel_rfl) rfl (X.dwN rfl) (X.callE (front_e (k, Ac, pg.length, cc) _ (ReIn.grow (TC := fun q => TB q ∨ (w.heap.size ≤ q ∧ q < w15.heap.size)) (show ReIn TB _ rb s0 from ⟨A, n, c, hs, lo, hi0, (hB.keep ((hk1.trans hk2).trans hk15)), (((hs0.keep hk1).keep hk2).keep hk15), hloT, by omega, hnc, (((hps.keep hk1).keep hk2).keep hk15), hrT, fun k h => by have := hTw k h; omega⟩) (fun k h => .inl h) (fun h => h.elim hrT (fun h => by omega)) (fun k h => h.elim (fun h => by have := hTw k h; omega) (fun h => h.2))) (fun k h1 h2 => .inr ⟨by omega, by omega⟩) hsc hLn) Try.call39 rfl rfl) (fun _ _ _ h => absurd h (by decide)) ?_
        rintro _ w16 ⟨rfl, ⟨A5, n5, c5, hs5, lo5, hi5, hB5, hsl5, hlo5, hhi5, hnc5, hps5, hrT5, hTw5⟩, hx16⟩
        have hx16' := hx16.size
        refine X.dEnd (by kernel_rfl) ?_
        refine X.seq ?_
        refine X.regionD (fun _ => False) 10 (by kernel_rfl) (by kernel_rfl) (fun w17 hk17 hz17 => ?_)
        refine X.dTake 0 rfl (by kernel_rfl) (by kernel_rfl) (by kernel_rfl) (X.dwN rfl) (fun w' hk' => X.move rfl) ?_
        refine X.dTake 1 rfl (by kernel_rfl) (by kernel_rfl) (by kernel_rfl) (X.dwN rfl) (fun w' hk' => X.nilCk rfl) ?_
        refine X.dTake 2 rfl (by kernel_rfl) (by kernel_rfl) (by kernel_rfl) (X.dwN rfl) (fun w' hk' => X.fldB (j := 1) Try.underlying51 rfl rfl Try.sizeOf49 rfl) ?_
        refine X.dTake 3 rfl (by kernel_rfl) (by kernel_rfl) (by kernel_rfl) (X.dwN rfl) (fun w' hk' => X.load1B Try.isAgg49 (hB5.keep (hk17.trans hk')) rfl rfl) ?_
        refine X.dTake 4 rfl (by kernel_rfl) (by kernel_rfl) (by kernel_rfl) (X.dwN rfl) (fun w' hk' => X.lenSl Try.underlying49 rfl) ?_
        refine X.dTake 5 rfl (by kernel_rfl) (by kernel_rfl) (by kernel_rfl) (X.dwN rfl) (fun w' hk' => X.move rfl) ?_
        refine X.dTake 6 rfl (by kernel_rfl) (by kernel_rfl) (by kernel_rfl) (X.dwN rfl) (fun w' hk' => X.nilCk rfl) ?_
        refine X.dTake 7 rfl (by kernel_rfl) (by kernel_rfl) (by kernel_rfl) (X.dwN rfl) (fun w' hk' => X.fldB (j := 0) Try.underlying51 rfl rfl Try.sizeOf3 rfl) ?_
        refine X.dTake 8 rfl (by kernel_rfl) (by kernel_rfl) (by kernel_rfl) (X.dwN rfl) (fun w' hk' => X.load1B Try.isAgg3 (hB5.keep (hk17.trans hk')) rfl rfl) ?_
        refine X.dTake 9 rfl (by kernel_rfl) (by kernel_rfl) (by kernel_rfl) (X.dwN rfl) (fun w' hk' => X.gtr rfl rfl) ?_
        refine X.dEnd (by kernel_rfl) ?_
        refine X.condB rfl (fun hc => ?_) (fun hc => ?_)
        · have hl5 := hsl5.len
          have hc2 : s0.room < (n5 : Int) := by simpa using hc
          refine X.seq ?_
          refine X.regionD (fun _ => False) 10 (by kernel_rfl) (by kernel_rfl) (fun w18 hk18 hz18 => ?_)
          refine X.dTake 0 rfl (by kernel_rfl) (by kernel_rfl) (by kernel_rfl) (X.dwN rfl) (fun w' hk' => X.move rfl) ?_
          refine X.dTake 1 rfl (by kernel_rfl) (by kernel_rfl) (by kernel_rfl) (X.dwN rfl) (fun w' hk' => X.move rfl) ?_
          refine X.dTake 2 rfl (by kernel_rfl) (by kernel_rfl) (by kernel_rfl) (X.dwN rfl) (fun w' hk' => X.nilCk rfl) ?_
          refine X.dTake 3 rfl (by kernel_rfl) (by kernel_rfl) (by kernel_rfl) (X.dwN rfl) (fun w' hk' => X.fldB (j := 1) Try.underlying51 rfl rfl Try.sizeOf49 rfl) ?_
          refine X.dTake 4 rfl (by kernel_rfl) (by kernel_rfl) (by kernel_rfl) (X.dwN rfl) (fun w' hk' => X.load1B Try.isAgg49 (hB5.keep ((hk17.trans hk18).trans hk')) rfl rfl) ?_
          refine X.dTake 5 rfl (by kernel_rfl) (by kernel_rfl) (by kernel_rfl) (X.dwN rfl) (fun w' hk' => X.move rfl) ?_
          refine X.dTake 6 rfl (by kernel_rfl) (by kernel_rfl) (by kernel_rfl) (X.dwN rfl) (fun w' hk' => X.nilCk rfl) ?_
          refine X.dTake 7 rfl (by kernel_rfl) (by kernel_rfl) (by kernel_rfl) (X.dwN rfl) (fun w' hk' => X.fldB (j := 0) Try.underlying51 rfl rfl Try.sizeOf3 rfl) ?_
          refine X.dTake 8 rfl (by kernel_rfl) (by kernel_rfl) (by kernel_rfl) (X.dwN rfl) (fun w' hk' => X.load1B Try.isAgg3 (hB5.keep ((hk17.trans hk18).trans hk')) rfl rfl) ?_
          refine X.dTake 9 rfl (by kernel_rfl) (by kernel_rfl) (by kernel_rfl) (X.dwN rfl) (fun w' hk' => X.cutHr Try.underlying49 Try.sizeOf56 rfl rfl (by omega)) ?_
          refine X.dStep (i := 10) (by kernel_rfl) rfl (X.dwN rfl) (X.nilCk rfl) (fun h => absurd h (by decide)) ?_
          refine X.dStep (i := 11) (by kernel_rfl) rfl (X.dwN rfl) (X.fldB (j := 1) Try.underlying51 rfl rfl Try.sizeOf49 rfl) (fun h => absurd h (by decide)) ?_
          refine X.dE (i := 12) (by kernel_rfl) rfl (X.dwN rfl) (X.storeE Try.sizeOf49 (hB5.keep (hk17.trans hk18)) rfl rfl rfl rfl) (fun _ _ _ h => absurd h (by decide)) ?_
          rintro _ w19 ⟨hB19, hx19, hz19⟩
          refine X.dEnd (by kernel_rfl) ?_
          refine X.region ?_
          refine X.opw X.wN rfl (X.move rfl) ?_
          refine X.opw X.wN rfl (X.nilCk rfl) ?_
          refine X.opw X.wN rfl (X.fldB (j := 2) Try.underlying51 rfl rfl Try.sizeOf47 rfl) ?_
          refine X.opw X.wN rfl (X.fldB (j := 4) Try.underlying47 rfl rfl Try.sizeOf3 rfl) ?_
          refine X.opw X.wN rfl (X.load1B Try.isAgg3 hB19 rfl rfl) ?_
          refine X.opw X.wN rfl (X.add (c := s0.g + 1) rfl rfl (X.w_i64 (by omega))) ?_
          refine X.opw X.wN rfl (X.nilCk rfl) ?_
          refine X.opw X.wN rfl (X.fldB (j := 2) Try.underlying51 rfl rfl Try.sizeOf47 rfl) ?_
          refine X.opw X.wN rfl (X.fldB (j := 4) Try.underlying47 rfl rfl Try.sizeOf3 rfl) ?_
          refine X.opE X.wN rfl (X.storeE Try.sizeOf3 hB19 rfl rfl rfl rfl) ?_
          rintro _ w20 ⟨hB20, hx20, hz20⟩
          refine X.opsEnd ?_
          refine X.end0 Try.func31 Try.results31 ?_
          have hput := put_take (s := s0) (k := k) (p := pg) (by omega) hlr (by rw [← hps5.len, hl5]; exact hc2)
          rw [hput]
          exact ⟨rfl, ⟨A5, s0.room.toNat, c5, hs5.take s0.room.toNat, lo5, hi5, hB20, (((((hsl5.keep hk17).keep hk18).ext hx19 (fun k h1 h2 h3 => by have h3 : k = rb := h3; exact hrT5 (by rw [← h3]; exact hlo5 k h1 h2))).ext hx20 (fun k h1 h2 h3 => by have h3 : k = rb := h3; exact hrT5 (by rw [← h3]; exact hlo5 k h1 h2)))).take _ (by omega), fun k a b => (fun k h => h.elim (fun h => h.imp id (fun h => ⟨by omega, by omega⟩)) (fun h => .inr ⟨by omega, by omega⟩)) k (hlo5 k a b), by omega, by omega, ((((((hps5.keep hk17).keep hk18).ext hx19 (fun k h1 h2 => by have h2 : k = rb := h2; exact hrT5 (by rw [← h2]; exact h1))).ext hx20 (fun k h1 h2 => by have h2 : k = rb := h2; exact hrT5 (by rw [← h2]; exact h1)))).mono (fun k h => h.elim (fun h => h.imp id (fun h => ⟨by omega, by omega⟩)) (fun h => .inr ⟨by omega, by omega⟩))).take _, fun h => h.elim hrT (fun h => by omega), fun k h => h.elim (fun h => by have := hTw k h; omega) (fun h => h.2)⟩, (Ext.andThen (Ext.andThen (Ext.andThen (Ext.andThen (Ext.andThen (Ext.andThen (Ext.andThen (Ext.andThen (Ext.refl (fun q => q = rb) _) hk1 (by intro q h1 h2; first | exact (h2 : False).elim | exact h2 | (exfalso; have h2 : w.heap.size ≤ q := h2; omega))) hk2 (by intro q h1 h2; first | exact (h2 : False).elim | exact h2 | (exfalso; have h2 : w.heap.size ≤ q := h2; omega))) hk15 (by intro q h1 h2; first | exact (h2 : False).elim | exact h2 | (exfalso; have h2 : w.heap.size ≤ q := h2; omega))) hx16 (by intro q h1 h2; first | exact (h2 : False).elim | exact h2 | (exfalso; have h2 : w.heap.size ≤ q := h2; omega))) hk17 (by intro q h1 h2; first | exact (h2 : False).elim | exact h2 | (exfalso; have h2 : w.heap.size ≤ q := h2; omega))) hk18 (by intro q h1 h2; first | exact (h2 : False).elim | exact h2 | (exfalso; have h2 : w.heap.size ≤ q := h2; omega))) hx19 (by intro q h1 h2; first | exact (h2 : False).elim | exact h2 | (exfalso; have h2 : w.heap.size ≤ q := h2; omega))) hx20 (by intro q h1 h2; first | exact (h2 : False).elim | exact h2 | (exfalso; have h2 : w.heap.size ≤ q := h2; omega)))⟩
        · have hl5 := hsl5.len
          have hc2 : ¬ s0.room < (n5 : Int) := by simpa using hc
          refine X.skip ?_
          refine X.end0 Try.func31 Try.results31 ?_
          have hput : s0.put k pg = { s0 with L := (k, pg) :: s0.L.filter fun q => decide (q.1 ≠ k) } := by rw [Ca.put, if_neg (by omega), if_neg (by rw [← hps5.len, hl5]; exact hc2)]
          rw [hput]
          exact ⟨rfl, ⟨A5, n5, c5, hs5, lo5, hi5, (hB5.keep hk17), (hsl5.keep hk17), fun k a b => (fun k h => h.elim (fun h => h.imp id (fun h => ⟨by omega, by omega⟩)) (fun h => .inr ⟨by omega, by omega⟩)) k (hlo5 k a b), by omega, hnc5, ((hps5.keep hk17)).mono (fun k h => h.elim (fun h => h.imp id (fun h => ⟨by omega, by omega⟩)) (fun h => .inr ⟨by omega, by omega⟩)), fun h => h.elim hrT (fun h => by omega), fun k h => h.elim (fun h => by have := hTw k h; omega) (fun h => h.2)⟩, (Ext.andThen (Ext.andThen (Ext.andThen (Ext.andThen (Ext.andThen (Ext.refl (fun q => q = rb) _) hk1 (by intro q h1 h2; first | exact (h2 : False).elim | exact h2 | (exfalso; have h2 : w.heap.size ≤ q := h2; omega))) hk2 (by intro q h1 h2; first | exact (h2 : False).elim | exact h2 | (exfalso; have h2 : w.heap.size ≤ q := h2; omega))) hk15 (by intro q h1 h2; first | exact (h2 : False).elim | exact h2 | (exfalso; have h2 : w.heap.size ≤ q := h2; omega))) hx16 (by intro q h1 h2; first | exact (h2 : False).elim | exact h2 | (exfalso; have h2 : w.heap.size ≤ q := h2; omega))) hk17 (by intro q h1 h2; first | exact (h2 : False).elim | exact h2 | (exfalso; have h2 : w.heap.size ≤ q := h2; omega)))⟩
-- f32 "(*pedigree/pedigreeref08.Cache).Drop" params [39, 9] results [3] -> [(ResultVar.tmp 4)] nfree 0 ntmps 
set_option maxHeartbeats 4000000 in
set_option maxRecDepth 100000 in
theorem RDrop_c {TB : Nat → Prop} {rb : Nat} {s0 : Ca} (nm : ByteArray) (w : World) (hR : ReIn TB w rb s0) (hLn : s0.L.length ≤ 10000) : Ret Try.prog 32 #[ptrV rb, .string nm] w fun r w' => r = .int .i64 ((s0.L.length : Int) - ((s0.drop nm).L.length : Int)) ∧ ReIn (fun q => TB q ∨ (w.heap.size ≤ q ∧ q < w'.heap.size)) w' rb (s0.drop nm) ∧ Ext (fun q => q = rb) w w' := by
  obtain ⟨A, n, c, hs, lo, hi0, hB, hs0, hloT, hhi, hnc, hps, hrT, hTw⟩ := hR
  have hl := hs0.len
  have hbd := hs0.bound
  have hpl := hps.len
  have hrb := hB.lt
  refine X.enter Try.func32 rfl Try.ntmps32 rfl ?_
  refine X.seq ?_
  refine X.region ?_
  refine X.opw X.wN rfl (X.assign rfl) ?_
  refine X.opsEnd ?_
  refine X.seq ?_
  refine X.region ?_
  refine X.opw X.wN rfl (X.assign rfl) ?_
  refine X.opsEnd ?_
  refine X.seq ?_
  refine X.seq ?_
  refine X.region ?_
  refine X.opw X.wN rfl (X.assign rfl) ?_
  refine X.opsEnd ?_
  refine X.block ?_
  -- LOOP live: 0=c, 1=name, 5=l*, 6=i*
  refine X.loopL (σ := Nat × Value × List HL) (fun s => [(0, ptrV rb), (1, .string nm), (5, s.2.1), (6, .int .i64 (s.1 : Int))]) (fun s w' => s.1 ≤ n ∧ s.2.2.length ≤ s.1 ∧ Mine KHd 56 (fun k => w.heap.size ≤ k) 0 0 w' s.2.1 s.2.2 ∧ Lps TB w' s.2.2 ((s0.L.take s.1).filter fun q => decide (q.1.1 ≠ nm)) ∧ Keep w w') (fun s => n - s.1) (0, _, []) ⟨rfl, rfl, rfl, rfl, trivial⟩ ⟨Nat.zero_le _, Nat.le_refl _, Mine.nil _ _ _ _ _ _, ⟨rfl, fun i a q h1 h2 => by simp at h1⟩, (Keep.refl _)⟩ ?_
  rintro ⟨i, v, l⟩ b0 wl ⟨hi, hll, hMo, hlp, hk⟩ hback
  dsimp only
  simp only at hi hll hMo hlp
  have hk' := hk.size
  refine X.seq ?_
  refine X.seq ?_
  refine X.region ?_
  refine X.opw X.wN rfl (X.move (v := .int .i64 _) rfl) ?_
  refine X.opw X.wN rfl (X.move rfl) ?_
  refine X.opw X.wN rfl (X.nilCk rfl) ?_
  refine X.opw X.wN rfl (X.fldB (j := 1) Try.underlying51 rfl rfl Try.sizeOf49 rfl) ?_
  refine X.opw X.wN rfl (X.load1B Try.isAgg49 (hB.keep hk) rfl rfl) ?_
  refine X.opw X.wN rfl (X.lenSl Try.underlying49 rfl) ?_
  refine X.opP X.wN rfl rfl (X.lss rfl rfl) (fun h14 => ?_) (fun h14 => ?_)
  · obtain ⟨x, hx⟩ := getL i hl (by omega)
    obtain ⟨q, hq⟩ := getL (l := s0.L) i rfl (by omega)
    obtain ⟨hxq, loq, hiq, hqT, hsq⟩ := hps.get i x q hx hq
    refine X.opsEnd ?_
    refine X.condT rfl ?_
    refine X.skip ?_
    refine X.seq ?_
    refine X.block ?_
    refine X.seq ?_
    refine X.region ?_
    refine X.opw X.wN rfl (X.move rfl) ?_
    refine X.opw X.wN rfl (X.nilCk rfl) ?_
    refine X.opw X.wN rfl (X.fldB (j := 1) Try.underlying51 rfl rfl Try.sizeOf49 rfl) ?_
    refine X.opw X.wN rfl (X.load1B Try.isAgg49 (hB.keep hk) rfl rfl) ?_
    refine X.opw X.wN rfl (X.move (v := .int .i64 _) rfl) ?_
    refine X.opw X.wN rfl (X.idxS (hs0.keep hk) Try.underlying49 Try.sizeOf56 rfl rfl ⟨by omega, by omega⟩) ?_
    refine X.opw X.wN rfl (X.fldA Try.underlying56 rfl rfl Try.sizeOf30) ?_
    refine X.opw X.wN rfl (X.fldA Try.underlying30 rfl rfl Try.sizeOf9) ?_
    refine X.opw X.wN rfl (loadSf2 (o := 0) (o2 := 0) (v := .string x.1.1) Try.isAgg9 (hs0.keep hk) hx rfl (fun _ h => by rw [h.1]; rfl)) ?_
    refine X.opw X.wN rfl (X.move (v := .string _) rfl) ?_
    refine X.opP X.wN rfl rfl (X.neD rfl rfl) (fun h27 => ?_) (fun h27 => ?_)
    · refine X.opsEnd ?_
      refine X.condT rfl ?_
      refine X.region ?_
      refine X.opw X.wN rfl (X.move rfl) ?_
      refine X.opw X.wN rfl (X.move rfl) ?_
      refine X.opw X.wN rfl (X.nilCk rfl) ?_
      refine X.opw X.wN rfl (X.fldB (j := 1) Try.underlying51 rfl rfl Try.sizeOf49 rfl) ?_
      refine X.opw X.wN rfl (X.load1B Try.isAgg49 (hB.keep hk) rfl rfl) ?_
      refine X.opw X.wN rfl (X.move (v := .int .i64 _) rfl) ?_
      refine X.opw X.wN rfl (X.idxS (hs0.keep hk) Try.underlying49 Try.sizeOf56 rfl rfl ⟨by omega, by omega⟩) ?_
      refine X.opw X.wN rfl (X.loadSN Try.isAgg56 Try.sizeOf56 (hs0.keep hk) hx rfl (fun _ h => h.1) rfl) ?_
      refine X.opE X.wN rfl (X.litKF KHd_flat (K := KHd) (xs := [Operand.tmp 35]) (vs := [evH x]) (ys := [x]) Try.underlying49 Try.sizeOf56 Try.zeroValue56 rfl rfl rfl rfl rfl (repsH _)) ?_
      rintro _ w1 ⟨rfl, hs1, hB1, hk1, hz1⟩
      refine X.opE X.wN rfl (X.appE (K := KHd) (S := fun k => w.heap.size ≤ k) KHd_flat Try.underlying49 EHd rfl rfl (hMo.keep hk1) hs1 (by (try simp only [List.length_append, List.length_cons, List.length_nil, List.length_take, List.length_drop, List.length_map, List.length_range]); omega) (by intros; (try simp only [] at *); omega)) ?_
      rintro v2 w2 ⟨hM2, hx2⟩
      have hx2' := hx2.size
      refine X.opw X.wN rfl (X.assign rfl) ?_
      refine X.opsEnd ?_
      refine X.inBlock ?_
      refine X.region ?_
      refine X.opw X.wN rfl (X.move (v := .int .i64 _) rfl) ?_
      refine X.opw X.wN rfl (X.add rfl rfl (X.w_i64 (by omega))) ?_
      refine X.opw X.wN rfl (X.assign (v := .int .i64 _) rfl) ?_
      refine X.opsEnd ?_
      have hlp2 : Lps TB w2 (l ++ [x]) ((s0.L.take (i + 1)).filter fun q => decide (q.1.1 ≠ nm)) := by
        rw [drl_step hq, if_neg (by rw [← hxq]; exact h27)]
        exact (((hlp.keep hk1).ext hx2 (fun k h1 h2 => by have h3 := hTw k h1; first | (have h2 : w.heap.size ≤ k := h2; omega) | (have h2 : k = rb := h2; exact hrT (by rw [← h2]; exact h1))))).snoc hxq hqT (hsq.keep ((hk.trans hk1).step hx2 (by intros; (try simp only [] at *); omega)))
      refine hback (i + 1, _, l ++ [x]) _ _ ⟨rfl, rfl, rfl, rfl, trivial⟩ ⟨by dsimp only; omega, by dsimp only; rw [List.length_append, List.length_singleton]; omega, hM2, hlp2, ((hk.trans hk1).step hx2 (by intros; (try simp only [] at *); omega))⟩ (by dsimp only; omega)
    · refine X.opsEnd ?_
      refine X.condF rfl ?_
      refine X.skip ?_
      refine X.inBlock ?_
      refine X.region ?_
      refine X.opw X.wN rfl (X.move (v := .int .i64 _) rfl) ?_
      refine X.opw X.wN rfl (X.add rfl rfl (X.w_i64 (by omega))) ?_
      refine X.opw X.wN rfl (X.assign (v := .int .i64 _) rfl) ?_
      refine X.opsEnd ?_
      have hlp2 : Lps TB wl l ((s0.L.take (i + 1)).filter fun q => decide (q.1.1 ≠ nm)) := by
        rw [drl_step hq, if_pos (by rw [← hxq]; exact Classical.not_not.1 h27), List.append_nil]
        exact hlp
      refine hback (i + 1, v, l) _ _ ⟨rfl, rfl, rfl, rfl, trivial⟩ ⟨by dsimp only; omega, by dsimp only; omega, hMo, hlp2, hk⟩ (by dsimp only; omega)
  · refine X.opsEnd ?_
    refine X.condF rfl ?_
    refine X.exit rfl ?_
    refine X.seq ?_
    refine X.region ?_
    refine X.opw X.wN rfl (X.move rfl) ?_
    refine X.opw X.wN rfl (X.nilCk rfl) ?_
    refine X.opw X.wN rfl (X.fldB (j := 1) Try.underlying51 rfl rfl Try.sizeOf49 rfl) ?_
    refine X.opw X.wN rfl (X.load1B Try.isAgg49 (hB.keep hk) rfl rfl) ?_
    refine X.opw X.wN rfl (X.lenSl Try.underlying49 rfl) ?_
    refine X.opw X.wN rfl (X.move rfl) ?_
    have q3 := hMo.slF KHd_flat 0 (fun _ _ => Nat.zero_le _)
    obtain ⟨A3, c3, rfl, hc3, hs3⟩ := q3
    refine X.opw X.wN rfl (X.lenSl Try.underlying49 rfl) ?_
    refine X.opw X.wN rfl (X.sub (c := (s0.L.length : Int) - (l.length : Int)) rfl rfl (by rw [X.w_i64 (by omega)]; omega)) ?_
    refine X.opw X.wN rfl (X.assign (v := .int .i64 _) rfl) ?_
    refine X.opsEnd ?_
    refine X.seq ?_
    refine X.region ?_
    refine X.opw X.wN rfl (X.move rfl) ?_
    refine X.opw X.wN rfl (X.move rfl) ?_
    refine X.opw X.wN rfl (X.nilCk rfl) ?_
    refine X.opw X.wN rfl (X.fldB (j := 1) Try.underlying51 rfl rfl Try.sizeOf49 rfl) ?_
    refine X.opE X.wN rfl (X.storeE Try.sizeOf49 (hB.keep hk) rfl rfl rfl rfl) ?_
    rintro _ w4 ⟨hB4, hx4, hz4⟩
    refine X.opsEnd ?_
    refine X.seq ?_
    refine X.region ?_
    refine X.opw X.wN rfl (X.move (v := .int .i64 _) rfl) ?_
    refine X.opw X.wN rfl (X.assign (v := .int .i64 _) rfl) ?_
    refine X.opsEnd ?_
    refine X.ret1 (v := (.int .i64 _)) Try.func32 Try.results32 rfl ?_
    rw [show i = n by omega, List.take_of_length_le (by omega)] at hlp
    exact ⟨by rw [Ca.drop, ← hlp.len], ⟨A3, l.length, c3, l, w.heap.size, w4.heap.size, hB4, mine_0 KHd_flat (hMo.ext hx4 (by intros; (try simp only []); first | omega | (intro hq; have hq2 := hq; (try simp only [] at hq2); omega)) (by intros; (try simp only []); first | omega | (intro hq; have hq2 := hq; (try simp only [] at hq2); omega))) w.heap.size (fun k h => h), fun k h1 h2 => .inr ⟨h1, h2⟩, Nat.le_refl _, hc3, ((hlp.ext hx4 (fun k h1 h2 => by have h3 := hTw k h1; first | (have h2 : w.heap.size ≤ k := h2; omega) | (have h2 : k = rb := h2; exact hrT (by rw [← h2]; exact h1))))).mono (fun k h => .inl h), fun h => h.elim hrT (fun h => by omega), fun k h => h.elim (fun h => by have := hTw k h; omega) (fun h => h.2)⟩, (Ext.andThen (Ext.andThen (Ext.refl (fun q => q = rb) _) hk (by intro q h1 h2; first | exact (h2 : False).elim | exact h2 | (exfalso; have h2 : w.heap.size ≤ q := h2; omega))) hx4 (by intro q h1 h2; first | exact (h2 : False).elim | exact h2 | (exfalso; have h2 : w.heap.size ≤ q := h2; omega)))⟩
end Go.Proofs.Ytjjhddjllpihaaa
