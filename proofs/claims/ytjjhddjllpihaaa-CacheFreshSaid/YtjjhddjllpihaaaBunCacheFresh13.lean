/- Texts that the proof of CacheFresh stands on, part 13. -/
import Derived.Test.YtjjhddjllpihaaaProg
import Derived.Test.YtjjhddjllpihaaaBunCacheFresh12

namespace Go.Proofs.Ytjjhddjllpihaaa
open Go Go.Proofs.Ytjjhddjllpihaaa.X
set_option linter.unusedVariables false
set_option linter.unusedSimpArgs false
section
variable {P : Program} {ρ : Operand → Value} {w : World} {dst : Option Tmp} {ty : TypeId} {pos : String} {aft : Array Edge} {g : Option (Nat × Bool)}
theorem minN {s x : Operand} {ts : Array TypeId} {k k' : IntKind} {a b : Nat} (hs : ρ s = .int k (a : Int)) (hx : ρ x = .int k' (b : Int)) : Does P ⟨dst, .call ⟨.builtin .min, #[s, x], ts⟩, ty, pos, aft, g⟩ ρ w (.int k ((min a b : Nat) : Int)) w := by
  have h : Does P ⟨dst, .call ⟨.builtin .min, #[s, x], ts⟩, ty, pos, aft, g⟩ ρ w (.int k (if (b : Int) < (a : Int) then (b : Int) else (a : Int))) w :=
    does_run rfl (by simp only [execOp, resolve, invoke, builtin, List.map_toArray, List.map_cons, List.map_nil, hs, hx]; simp [Builtin.min_, Builtin.min2])
  rwa [show (if (b : Int) < (a : Int) then (b : Int) else (a : Int)) = ((min a b : Nat) : Int) by split <;> omega] at h
end
theorem repsPk1 {w : World} (x : PKEY) : RepsV KPk w [x] [encPK x] := repsPk x
theorem fr_step {k x : PKEY} {xs : List PKEY} {j : Nat} (hx : xs[j]? = some x) : (xs.take (j + 1)).filter (fun y => decide (y ≠ k)) = (xs.take j).filter (fun y => decide (y ≠ k)) ++ if x = k then [] else [x] := by
  rw [take_at hx, List.filter_append]
  by_cases e : x = k
  · rw [if_pos e, e]; simp
  · rw [if_neg e]; simp [e]
theorem take_min {α : Type} (r : Nat) (xs : List α) : xs.take r = xs.take (min r xs.length) := by
  rcases Nat.le_total r xs.length with h | h
  · rw [Nat.min_eq_left h]
  · rw [Nat.min_eq_right h, List.take_of_length_le h, List.take_of_length_le (Nat.le_refl _)]
theorem fr_nodup {k : PKEY} {xs : List PKEY} (h : xs.Nodup) : (k :: xs.filter fun y => decide (y ≠ k)).Nodup := by
  rw [List.nodup_cons]; exact ⟨fun h => by have := (List.mem_filter.1 h).2; simp at this, h.filter _⟩
-- f3 "pedigree/pedigreelaw08.CacheFresh" params [5, 22] results [4] -> [(ResultVar.tmp 4)] nfree 0 ntmps 86 n
set_option maxHeartbeats 4000000 in
set_option maxRecDepth 100000 in
theorem CacheFresh_c (w : World) (room : UInt8) (g1 : True) (A : Option Addr) (n c : Nat) (ks : List UInt8) (hc : n ≤ c) (hs : Sl KB 0 w.heap.size w A n ks) : Ret Try.prog 3 #[.int .u8 (room.toNat : Int), .slice A n c] w fun r w' => r = .bool true ∧ Keep w w' := by
  have hlk := hs.len
  have hbd := hs.bound
  have hr8 := room.toNat_lt
  obtain ⟨r, hr⟩ : ∃ r, r = room.toNat % 8 := ⟨_, rfl⟩
  refine X.enter Try.func3 rfl Try.ntmps3 rfl ?_
  refine X.seq ?_
  refine X.region ?_
  refine X.opw X.wN rfl (X.assign rfl) ?_
  refine X.opsEnd ?_
  refine X.seq ?_
  refine X.seq ?_
  refine X.region ?_
  refine X.opE X.wN rfl (X.callE (awake_c _) Try.call7 rfl rfl) ?_
  rintro _ w1 ⟨rfl, hk1⟩
  have hk1' := hk1.size
  refine X.opw X.wN rfl (X.not_ rfl) ?_
  refine X.opsEnd ?_
  refine X.condF rfl ?_
  refine X.skip ?_
  refine X.seq ?_
  refine X.region ?_
  refine X.opw X.wN rfl (X.move (v := .int .u8 _) rfl) ?_
  refine X.opw X.wN rfl (X.cvI Try.underlying5 Try.underlying3 rfl (X.w_i64 (by omega))) ?_
  refine X.opw X.wN rfl (X.rem (c := (r : Int)) rfl rfl (by decide) (by rw [hr]; rfl)) ?_
  refine X.opw X.wN rfl (X.assign (v := .int .i64 _) rfl) ?_
  refine X.opsEnd ?_
  refine X.seq ?_
  refine X.region ?_
  refine X.opw X.wN rfl (X.move (v := .int .i64 _) rfl) ?_
  refine X.opE X.wN rfl (X.callE (New_e _ (by omega) _) Try.call8 rfl rfl) ?_
  rintro _ w2 ⟨bc, rfl, hC2, hk2⟩
  have hk2' := hk2.size
  refine X.opw X.wN rfl (X.move rfl) ?_
  refine X.opw X.wN rfl (X.extr rfl rfl) ?_
  refine X.opw X.wN rfl (X.extr rfl rfl) ?_
  refine X.opw X.wN rfl (X.assign rfl) ?_
  refine X.opw X.wN rfl (X.assign (v := .int .i64 _) rfl) ?_
  refine X.opsEnd ?_
  refine X.seq ?_
  refine X.seq ?_
  refine X.region ?_
  refine X.opw X.wN rfl (X.move (v := .int .i64 _) rfl) ?_
  refine X.opw X.wN rfl (X.neI rfl rfl) ?_
  refine X.opw X.wN rfl (X.move (v := .bool false) rfl) ?_
  refine X.opw (X.wG rfl rfl rfl) rfl (X.move rfl) ?_
  refine X.opw (X.wG rfl rfl rfl) rfl (X.eqPtrN (A := some _) Try.underlying24 rfl rfl) ?_
  refine X.opw X.wN rfl (X.pickF (v := .bool false) rfl rfl) ?_
  refine X.opsEnd ?_
  refine X.condF rfl ?_
  refine X.skip ?_
  refine X.seq ?_
  refine X.region ?_
  refine X.opw X.wN rfl (X.assign rfl) ?_
  refine X.opsEnd ?_
  refine X.seq ?_
  refine X.seq ?_
  refine X.region ?_
  refine X.opw X.wN rfl (X.assign rfl) ?_
  refine X.opsEnd ?_
  refine X.block ?_
  -- LOOP live: 1=keys, 5=n, 6=c, 8=fresh*, 9=i*
  refine X.loopL (σ := Nat × Option Addr × Nat × Nat) (fun s => [(1, .slice A n c), (5, .int .i64 (r : Int)), (6, ptrV bc), (8, .slice s.2.1 s.2.2.1 s.2.2.2), (9, .int .i64 (s.1 : Int))]) (fun s w' => s.1 ≤ n ∧ s.1 ≤ 60 ∧ ∃ xs cs TT a b, CaIn TT w' bc cs ∧ cs.room = (r : Int) ∧ cs.L.map (·.1) = xs.take r ∧ 0 ≤ cs.g ∧ cs.g ≤ s.1 ∧ xs.Nodup ∧ xs.length ≤ s.1 ∧ Mine KPk 30 (fun k => a ≤ k ∧ k < b) 0 0 w' (.slice s.2.1 s.2.2.1 s.2.2.2) xs ∧ (∀ k, TT k → w.heap.size ≤ k ∧ ¬ (a ≤ k ∧ k < b)) ∧ w.heap.size ≤ a ∧ b ≤ w'.heap.size ∧ Keep w w') (fun s => n - s.1) (0, none, 0, 0) ⟨rfl, rfl, rfl, rfl, rfl, trivial⟩ ⟨Nat.zero_le _, Nat.zero_le _, [], _, _, w2.heap.size, w2.heap.size, hC2, rfl, by simp, by simp, by simp, by simp, by simp, Mine.nil _ _ _ _ _ _, fun k h => ⟨by omega, by omega⟩, by omega, by omega, (hk1.trans hk2)⟩ ?_
  rintro ⟨i, A8, n8, c8⟩ b0 wl ⟨hi1, hi2, xs, cs, TT, a, b, hC, hroom, hL, hg0, hg1, hnd, hxl, hM, hTT, ha, hb, hk⟩ hback
  dsimp only
  simp only at hi1 hi2 hg1 hxl hM
  have hk' := hk.size
  have hTl := hC.lt
  have hn8 := hM.len
  have hc8 : n8 ≤ c8 := by obtain ⟨_, _, e, h, _⟩ := hM.slice; injection e with _ e2 e3; omega
  have hLn : cs.L.length ≤ 10000 := by have := congrArg List.length hL; rw [List.length_map, List.length_take] at this; omega
  refine X.seq ?_
  refine X.seq ?_
  refine X.region ?_
  refine X.opw X.wN rfl (X.move (v := .int .i64 _) rfl) ?_
  refine X.opw X.wN rfl (X.move (v := .slice _ _ _) rfl) ?_
  refine X.opw X.wN rfl (X.lenSl Try.underlying22 rfl) ?_
  refine X.opP X.wN rfl rfl (X.lss rfl rfl) (fun h32 => ?_) (fun h32 => ?_)
  · refine X.opw X.wN rfl (X.move (v := .bool true) rfl) ?_
    refine X.opw (X.wG rfl rfl rfl) rfl (X.move (v := .int .i64 _) rfl) ?_
    refine X.opP (X.wG rfl rfl rfl) rfl rfl (X.lss rfl rfl) (fun h35 => ?_) (fun h35 => ?_)
    · obtain ⟨x0, hx0⟩ := getL (l := ks) i hlk (by omega)
      have hx8 := x0.toNat_lt
      refine X.opw X.wN rfl (X.pickT (v := .bool true) rfl rfl) ?_
      refine X.opsEnd ?_
      refine X.condT rfl ?_
      refine X.skip ?_
      refine X.seq ?_
      refine X.block ?_
      refine X.seq ?_
      refine X.region ?_
      refine X.opw X.wN rfl (X.move (v := .slice _ _ _) rfl) ?_
      refine X.opw X.wN rfl (X.move (v := .int .i64 _) rfl) ?_
      refine X.opw X.wN rfl (X.idxS (hs.keep hk) Try.underlying22 Try.sizeOf5 rfl rfl ⟨by omega, by omega⟩) ?_
      refine X.opw X.wN rfl (X.loadS Try.isAgg5 (hs.keep hk) hx0 rfl (fun _ h => by rw [h.1]; rfl)) ?_
      refine X.opw X.wN rfl (X.cvI Try.underlying5 Try.underlying3 rfl (X.w_i64 (by omega))) ?_
      refine X.opw X.wN rfl (X.rem (c := ((x0.toNat % 12 : Nat) : Int)) rfl rfl (by decide) rfl) ?_
      refine X.opE X.wN rfl (X.callE (key_c _ _) Try.call9 rfl rfl) ?_
      rintro _ w3 ⟨rfl, hk3⟩
      have hk3' := hk3.size
      refine X.opE X.wN rfl (X.allocE Try.zeroValue30 rfl) ?_
      rintro _ w4 ⟨rfl, hB4, hk4, hz4⟩
      refine X.opE X.wN rfl (X.storeNE Try.sizeOf30 hB4 rfl rfl rfl rfl (fun u hu => by simp at hu; rcases hu with rfl | rfl <;> rfl)) ?_
      rintro _ w5 ⟨hB5, hx5, hz5⟩
      refine X.opsEnd ?_
      refine X.seq ?_
      refine X.regionD (TT) 9 (by kernel_rfl) (by kernel_rfl) (fun w6 hk6 hz6 => ?_)
      refine X.dTake 0 rfl (by kernel_rfl) (by kernel_rfl) (by kernel_rfl) (X.dwN rfl) (fun w' hk' => X.move rfl) ?_
      refine X.dTake 1 rfl (by kernel_rfl) (by kernel_rfl) (by kernel_rfl) (X.dwN rfl) (fun w' hk' => X.loadNB Try.isAgg30 Try.sizeOf30 ((hB5.keep hk6).ext hk' (by first | (intros; (try simp only []); omega) | exact fun k h e => by (have := hTl k h; have e2 : k = _ := e; omega) | exact fun h => by (have := hTl _ h; omega) | exact fun k h1 h2 => (hTT k h2).2 h1 | exact fun k _ h1 h2 => by (have := (hTT k h2).1; omega))) rfl rfl rfl) ?_
      refine X.dTake 2 rfl (by kernel_rfl) (by kernel_rfl) (by kernel_rfl) (X.dwN rfl) (fun w' hk' => X.move (v := .slice _ _ _) rfl) ?_
      refine X.dTake 3 rfl (by kernel_rfl) (by kernel_rfl) (by kernel_rfl) (X.dwN rfl) (fun w' hk' => X.move (v := .int .i64 _) rfl) ?_
      refine X.dTake 4 rfl (by kernel_rfl) (by kernel_rfl) (by kernel_rfl) (X.dwN rfl) (fun w' hk' => X.idxS (hs.keep (((((hk.trans hk3).trans hk4).step hx5 (by first | (intros; (try simp only [] at *); omega) | exact fun k h => (hTT k h).1)).trans hk6).step hk' (by first | (intros; (try simp only [] at *); omega) | exact fun k h => (hTT k h).1))) Try.underlying22 Try.sizeOf5 rfl rfl ⟨by omega, by omega⟩) ?_
      refine X.dTake 5 rfl (by kernel_rfl) (by kernel_rfl) (by kernel_rfl) (X.dwN rfl) (fun w' hk' => X.loadS Try.isAgg5 (hs.keep (((((hk.trans hk3).trans hk4).step hx5 (by first | (intros; (try simp only [] at *); omega) | exact fun k h => (hTT k h).1)).trans hk6).step hk' (by first | (intros; (try simp only [] at *); omega) | exact fun k h => (hTT k h).1))) hx0 rfl (fun _ h => by rw [h.1]; rfl)) ?_
      refine X.dTake 6 rfl (by kernel_rfl) (by kernel_rfl) (by kernel_rfl) (X.dwN rfl) (fun w' hk' => X.cvI Try.underlying5 Try.underlying2 rfl (X.w_i64 (by omega))) ?_
      refine X.dE (i := 7) (by kernel_rfl) rfl (X.dwN rfl) (X.callE (page_c _ ⟨by omega, by omega⟩ _) Try.call11 rfl rfl) (by rintro _ w7 ⟨A7, c7, rfl, hc7, hs7, hk7⟩ _; exact hk7.mono (fun _ _ h => h.elim)) ?_
      rintro _ w7 ⟨A7, c7, rfl, hc7, hs7, hk7⟩
      have hk7' := hk7.size
      refine X.dE (i := 8) (by kernel_rfl) rfl (X.dwN rfl) (X.callE (Put_c (keyP ((x0.toNat % 12 : Nat) : Int)) _ (hC.keep ((((hk3.trans hk4).step hx5 (by first | (intros; (try simp only [] at *); omega) | exact fun k h => (hTT k h).1)).trans hk6).trans hk7)) hs7 (by omega) (pageP_ok _) hLn (by omega) (by omega)) Try.call10 rfl rfl) (by rintro _ w8 ⟨rfl, hC8, hx8⟩ _; exact hx8) ?_
      rintro _ w8 ⟨rfl, hC8, hx8⟩
      have hx8' := hx8.size
      refine X.dEnd (by kernel_rfl) ?_
      refine X.seq ?_
      refine X.region ?_
      refine X.opw X.wN rfl (X.loadNB Try.isAgg30 Try.sizeOf30 ((hB5.keep (hk6.trans hk7)).ext hx8 (by first | (intros; (try simp only []); omega) | exact fun k h e => by (have := hTl k h; have e2 : k = _ := e; omega) | exact fun h => by (have := hTl _ h; omega) | exact fun k h1 h2 => (hTT k h2).2 h1 | exact fun k _ h1 h2 => by (have := (hTT k h2).1; omega))) rfl rfl rfl) ?_
      refine X.opE X.wN rfl (X.litKF KPk_flat (K := KPk) (xs := [Operand.tmp 55]) (vs := [encPK (keyP ((x0.toNat % 12 : Nat) : Int))]) (ys := [(keyP ((x0.toNat % 12 : Nat) : Int))]) Try.underlying28 Try.sizeOf30 Try.zeroValue30 rfl rfl rfl rfl rfl (repsPk1 _)) ?_
      rintro _ w9 ⟨rfl, hs9, hB9, hk9, hz9⟩
      refine X.opw X.wN rfl (X.assign rfl) ?_
      refine X.opsEnd ?_
      refine X.seq ?_
      refine X.seq ?_
      refine X.region ?_
      refine X.opw X.wN rfl (X.assign rfl) ?_
      refine X.opsEnd ?_
      refine X.block ?_
      -- LOOP live: 1=keys, 5=n, 6=c, 8=fresh, 9=i, 10=k, 11=l*, 12=a*
      have hM8 := ((hM.keep ((((hk3.trans hk4).step hx5 (by first | (intros; (try simp only [] at *); omega) | exact fun k h => (hTT k h).1)).trans hk6).trans hk7)).ext hx8 (by first | (intros; (try simp only []); omega) | exact fun k h e => by (have := hTl k h; have e2 : k = _ := e; omega) | exact fun h => by (have := hTl _ h; omega) | exact fun k h1 h2 => (hTT k h2).2 h1 | exact fun k _ h1 h2 => by (have := (hTT k h2).1; omega)) (by first | (intros; (try simp only []); omega) | exact fun k h e => by (have := hTl k h; have e2 : k = _ := e; omega) | exact fun h => by (have := hTl _ h; omega) | exact fun k h1 h2 => (hTT k h2).2 h1 | exact fun k _ h1 h2 => by (have := (hTT k h2).1; omega)))
      refine X.loopL (σ := Nat × Value) (fun s => [(1, .slice A n c), (5, .int .i64 (r : Int)), (6, ptrV bc), (8, .slice A8 n8 c8), (9, .int .i64 (i : Int)), (10, .pointer (some ⟨w3.heap.size, 0, none⟩)), (11, s.2), (12, .int .i64 (s.1 : Int))]) (fun s w' => s.1 ≤ n8 ∧ Mine KPk 30 (fun q => w8.heap.size ≤ q ∧ q < w'.heap.size) 0 0 w' s.2 ((keyP ((x0.toNat % 12 : Nat) : Int)) :: (xs.take s.1).filter fun y => decide (y ≠ (keyP ((x0.toNat % 12 : Nat) : Int)))) ∧ Keep w8 w') (fun s => n8 - s.1) (0, _) ⟨rfl, rfl, rfl, rfl, rfl, rfl, rfl, rfl, trivial⟩ ⟨Nat.zero_le _, (show Mine KPk 30 (fun q => w8.heap.size ≤ q) 0 0 w9 _ [(keyP ((x0.toNat % 12 : Nat) : Int))] from (Mine.litV (vs := [encPK (keyP ((x0.toNat % 12 : Nat) : Int))]) (w0 := w8) KPk_flat hB9 (repsPk1 _) rfl (by first | omega | simp) (by first | (intros; (try simp only [] at *); omega) | exact fun k h => (hTT k h).1))).mono (fun k hk h => ⟨h, hk⟩), hk9⟩ ?_
      rintro ⟨j, v⟩ b1 wm ⟨hj, hM2, hkk⟩ hback2
      dsimp only
      simp only at hj hM2
      have hkk' := hkk.size
      have hfl : ((xs.take j).filter fun y => decide (y ≠ (keyP ((x0.toNat % 12 : Nat) : Int)))).length ≤ 60 := by have := List.length_filter_le (fun y : PKEY => decide (y ≠ (keyP ((x0.toNat % 12 : Nat) : Int)))) (xs.take j); rw [List.length_take] at this; omega
      refine X.seq ?_
      refine X.seq ?_
      refine X.region ?_
      refine X.opw X.wN rfl (X.move (v := .int .i64 _) rfl) ?_
      refine X.opw X.wN rfl (X.move rfl) ?_
      refine X.opw X.wN rfl (X.lenSl Try.underlying28 rfl) ?_
      refine X.opP X.wN rfl rfl (X.lss rfl rfl) (fun h60 => ?_) (fun h60 => ?_)
      · obtain ⟨x, hx⟩ := getL (l := xs) j hn8 (by omega)
        refine X.opsEnd ?_
        refine X.condT rfl ?_
        refine X.skip ?_
        refine X.seq ?_
        refine X.block ?_
        refine X.seq ?_
        refine X.regionD (fun _ => False) 6 (by kernel_rfl) (by kernel_rfl) (fun w10 hk10 hz10 => ?_)
        refine X.dTake 0 rfl (by kernel_rfl) (by kernel_rfl) (by kernel_rfl) (X.dwN rfl) (fun w' hk' => X.move rfl) ?_
        refine X.dTake 1 rfl (by kernel_rfl) (by kernel_rfl) (by kernel_rfl) (X.dwN rfl) (fun w' hk' => X.move (v := .int .i64 _) rfl) ?_
        refine X.dTake 2 rfl (by kernel_rfl) (by kernel_rfl) (by kernel_rfl) (X.dwN rfl) (fun w' hk' => X.idxS ((mine_0 KPk_flat hM8 0 (fun _ _ => Nat.zero_le _)).keep ((hkk.trans hk10).trans hk')) Try.underlying28 Try.sizeOf30 rfl rfl ⟨by omega, by omega⟩) ?_
        refine X.dTake 3 rfl (by kernel_rfl) (by kernel_rfl) (by kernel_rfl) (X.dwN rfl) (fun w' hk' => X.loadSN Try.isAgg30 Try.sizeOf30 ((mine_0 KPk_flat hM8 0 (fun _ _ => Nat.zero_le _)).keep ((hkk.trans hk10).trans hk')) hx rfl (fun _ h => h.1) rfl) ?_
        refine X.dTake 4 rfl (by kernel_rfl) (by kernel_rfl) (by kernel_rfl) (X.dwN rfl) (fun w' hk' => X.loadNB Try.isAgg30 Try.sizeOf30 (((hB5.keep (hk6.trans hk7)).ext hx8 (by first | (intros; (try simp only []); omega) | exact fun k h e => by (have := hTl k h; have e2 : k = _ := e; omega) | exact fun h => by (have := hTl _ h; omega) | exact fun k h1 h2 => (hTT k h2).2 h1 | exact fun k _ h1 h2 => by (have := (hTT k h2).1; omega))).keep ((hkk.trans hk10).trans hk')) rfl rfl rfl) ?_
        refine X.dTake 5 rfl (by kernel_rfl) (by kernel_rfl) (by kernel_rfl) (X.dwN rfl) (fun w' hk' => X.neA eqPk_guard rfl rfl (eqPk x (keyP ((x0.toNat % 12 : Nat) : Int)) _)) ?_
        refine X.dEnd (by kernel_rfl) ?_
        refine X.condB rfl (fun hc => ?_) (fun hc => ?_)
        · refine X.region ?_
          refine X.opw X.wN rfl (X.move rfl) ?_
          refine X.opw X.wN rfl (X.move rfl) ?_
          refine X.opw X.wN rfl (X.move (v := .int .i64 _) rfl) ?_
          refine X.opw X.wN rfl (X.idxS ((mine_0 KPk_flat hM8 0 (fun _ _ => Nat.zero_le _)).keep (hkk.trans hk10)) Try.underlying28 Try.sizeOf30 rfl rfl ⟨by omega, by omega⟩) ?_
          refine X.opw X.wN rfl (X.loadSN Try.isAgg30 Try.sizeOf30 ((mine_0 KPk_flat hM8 0 (fun _ _ => Nat.zero_le _)).keep (hkk.trans hk10)) hx rfl (fun _ h => h.1) rfl) ?_
          refine X.opE X.wN rfl (X.litKF KPk_flat (K := KPk) (xs := [Operand.tmp 73]) (vs := [encPK x]) (ys := [x]) Try.underlying28 Try.sizeOf30 Try.zeroValue30 rfl rfl rfl rfl rfl (repsPk1 _)) ?_
          rintro _ w11 ⟨rfl, hs11, hB11, hk11, hz11⟩
          refine X.opE X.wN rfl (X.appE (K := KPk) (S := fun q => w8.heap.size ≤ q) KPk_flat Try.underlying28 EPk rfl rfl ((hM2.mono (T := fun q => w8.heap.size ≤ q) (fun q _ h => h.1)).keep (hk10.trans hk11)) hs11 (by (try simp only [List.length_append, List.length_cons, List.length_nil, List.length_take, List.length_drop, List.length_map, List.length_range]); omega) (by intros; omega)) ?_
          rintro v12 w12 ⟨hM12, hx12⟩
          have hx12' := hx12.size
          refine X.opw X.wN rfl (X.assign rfl) ?_
          refine X.opsEnd ?_
          refine X.inBlock ?_
          refine X.region ?_
          refine X.opw X.wN rfl (X.move (v := .int .i64 _) rfl) ?_
          refine X.opw X.wN rfl (X.add rfl rfl (X.w_i64 (by omega))) ?_
          refine X.opw X.wN rfl (X.assign (v := .int .i64 _) rfl) ?_
          refine X.opsEnd ?_
          have hMa : Mine KPk 30 (fun q => w8.heap.size ≤ q ∧ q < w12.heap.size) 0 0 w12 v12 ((keyP ((x0.toNat % 12 : Nat) : Int)) :: (xs.take (j + 1)).filter fun y => decide (y ≠ (keyP ((x0.toNat % 12 : Nat) : Int)))) := by
            rw [fr_step hx, if_neg (by simpa using hc)]
            exact (hM12).mono (fun q hq h => ⟨h, hq⟩)
          refine hback2 (j + 1, v12) _ _ ⟨rfl, rfl, rfl, rfl, rfl, rfl, rfl, rfl, trivial⟩ ⟨by dsimp only; omega, hMa, (((hkk.trans hk10).trans hk11).step hx12 (by first | (intros; (try simp only [] at *); omega) | exact fun k h => (hTT k h).1))⟩ (by dsimp only; omega)
        · refine X.skip ?_
          refine X.inBlock ?_
          refine X.region ?_
          refine X.opw X.wN rfl (X.move (v := .int .i64 _) rfl) ?_
          refine X.opw X.wN rfl (X.add rfl rfl (X.w_i64 (by omega))) ?_
          refine X.opw X.wN rfl (X.assign (v := .int .i64 _) rfl) ?_
          refine X.opsEnd ?_
          have hMa : Mine KPk 30 (fun q => w8.heap.size ≤ q ∧ q < w10.heap.size) 0 0 w10 v ((keyP ((x0.toNat % 12 : Nat) : Int)) :: (xs.take (j + 1)).filter fun y => decide (y ≠ (keyP ((x0.toNat % 12 : Nat) : Int)))) := by
            rw [fr_step hx, if_pos (by simpa using hc), List.append_nil]
            exact ((hM2.keep hk10)).mono (fun q hq h => ⟨h.1, hq⟩)
          refine hback2 (j + 1, v) _ _ ⟨rfl, rfl, rfl, rfl, rfl, rfl, rfl, rfl, trivial⟩ ⟨by dsimp only; omega, hMa, (hkk.trans hk10)⟩ (by dsimp only; omega)
      · refine X.opsEnd ?_
        refine X.condF rfl ?_
        refine X.exit rfl ?_
        refine X.region ?_
        refine X.opw X.wN rfl (X.move rfl) ?_
        refine X.opw X.wN rfl (X.assign rfl) ?_
        refine X.opsEnd ?_
        refine X.inBlock ?_
        refine X.region ?_
        refine X.opw X.wN rfl (X.move (v := .int .i64 _) rfl) ?_
        refine X.opw X.wN rfl (X.add rfl rfl (X.w_i64 (by omega))) ?_
        refine X.opw X.wN rfl (X.assign (v := .int .i64 _) rfl) ?_
        refine X.opsEnd ?_
        have hjn : j = n8 := by omega
        obtain ⟨hp1, hp2, hp3, hp4, _, _⟩ := put_keys (k := (keyP ((x0.toNat % 12 : Nat) : Int))) (p := pageP (x0.toNat : Int)) hroom hnd hL
        rw [hjn, List.take_of_length_le (by omega)] at hM2
        obtain ⟨A9, c9, e9, hc9, _⟩ := hM2.slice
        subst e9
        have hM9 := hM2
        refine hback (i + 1, A9, ((keyP ((x0.toNat % 12 : Nat) : Int)) :: xs.filter fun y => decide (y ≠ (keyP ((x0.toNat % 12 : Nat) : Int)))).length, c9) _ _ ⟨rfl, rfl, rfl, rfl, rfl, trivial⟩ ⟨by dsimp only; omega, by dsimp only; omega, _, _, _, w8.heap.size, wm.heap.size, (hC8.keep hkk), hp2, hp1, by omega, by dsimp only; omega, fr_nodup hnd, by dsimp only; rw [List.length_cons]; have := List.length_filter_le (fun y : PKEY => decide (y ≠ (keyP ((x0.toNat % 12 : Nat) : Int)))) xs; omega, hM9, fun k h => h.elim (fun h => ⟨(hTT k h).1, fun q => by have := hTl k h; omega⟩) (fun h => ⟨by omega, by omega⟩), by omega, Nat.le_refl _, (((((((hk.trans hk3).trans hk4).step hx5 (by first | (intros; (try simp only [] at *); omega) | exact fun k h => (hTT k h).1)).trans hk6).trans hk7).step hx8 (by first | (intros; (try simp only [] at *); omega) | exact fun k h => (hTT k h).1)).trans hkk)⟩ (by dsimp only; omega)
    · refine X.opw X.wN rfl (X.pickT (v := .bool false) rfl rfl) ?_
      refine X.opsEnd ?_
      refine X.condF rfl ?_
      refine X.exit rfl ?_
      refine X.seq ?_
      refine X.regionD (fun _ => False) 9 (by kernel_rfl) (by kernel_rfl) (fun w13 hk13 hz13 => ?_)
      refine X.dTake 0 rfl (by kernel_rfl) (by kernel_rfl) (by kernel_rfl) (X.dwN rfl) (fun w' hk' => X.move rfl) ?_
      refine X.dTake 2 rfl (by kernel_rfl) (by kernel_rfl) (by kernel_rfl) (X.dwN rfl) (fun w' hk' => X.move rfl) ?_
      refine X.dTake 3 rfl (by kernel_rfl) (by kernel_rfl) (by kernel_rfl) (X.dwN rfl) (fun w' hk' => X.move (v := .int .i64 _) rfl) ?_
      refine X.dTake 4 rfl (by kernel_rfl) (by kernel_rfl) (by kernel_rfl) (X.dwN rfl) (fun w' hk' => X.move rfl) ?_
      refine X.dTake 5 rfl (by kernel_rfl) (by kernel_rfl) (by kernel_rfl) (X.dwN rfl) (fun w' hk' => X.lenSl Try.underlying28 rfl) ?_
      refine X.dTake 6 rfl (by kernel_rfl) (by kernel_rfl) (by kernel_rfl) (X.dwN rfl) (fun w' hk' => minN rfl rfl) ?_
      refine X.dTake 7 rfl (by kernel_rfl) (by kernel_rfl) (by kernel_rfl) (X.dwN rfl) (fun w' hk' => X.cutHr Try.underlying28 Try.sizeOf30 rfl rfl (by omega)) ?_
      refine X.dE (i := 1) (by kernel_rfl) rfl (X.dwN rfl) (X.callE (Keys_c _ (hC.keep hk13) (by omega)) Try.call13 rfl rfl) (by rintro _ w14 ⟨kA, kc, rfl, hkc, hkM, hk14⟩ _; exact hk14.mono (fun _ _ h => h.elim)) ?_
      rintro _ w14 ⟨kA, kc, rfl, hkc, hkM, hk14⟩
      have hk14' := hk14.size
      refine X.dE (i := 8) (by kernel_rfl) rfl (X.dwN rfl) (X.callE (SameKeys_c _ (mine_0 KPk_flat hkM 0 (fun _ _ => Nat.zero_le _)) (((mine_0 KPk_flat hM 0 (fun _ _ => Nat.zero_le _)).take _ (by omega)).keep (hk13.trans hk14))) Try.call12 rfl rfl) (by rintro _ w15 ⟨rfl, hk15⟩ _; exact hk15.mono (fun _ _ h => h.elim)) ?_
      rintro _ w15 ⟨rfl, hk15⟩
      have hk15' := hk15.size
      refine X.dStep (i := 9) (by kernel_rfl) rfl (X.dwN rfl) (X.assign (v := .bool _) rfl) (fun h => absurd h (by decide)) ?_
      refine X.dEnd (by kernel_rfl) ?_
      refine X.ret1 (v := (.bool _)) Try.func3 Try.results3 rfl ?_
      refine ⟨by congr 1; refine decide_eq_true ?_; rw [hL, ← hn8]; exact take_min r xs, (((hk.trans hk13).trans hk14).trans hk15)⟩
  · refine X.opw X.wN rfl (X.move (v := .bool false) rfl) ?_
    refine X.opS rfl rfl rfl rfl rfl ?_
    refine X.opS rfl rfl rfl rfl rfl ?_
    refine X.opw X.wN rfl (X.pickF (v := .bool false) rfl rfl) ?_
    refine X.opsEnd ?_
    refine X.condF rfl ?_
    refine X.exit rfl ?_
    refine X.seq ?_
    refine X.regionD (fun _ => False) 9 (by kernel_rfl) (by kernel_rfl) (fun w16 hk16 hz16 => ?_)
    refine X.dTake 0 rfl (by kernel_rfl) (by kernel_rfl) (by kernel_rfl) (X.dwN rfl) (fun w' hk' => X.move rfl) ?_
    refine X.dTake 2 rfl (by kernel_rfl) (by kernel_rfl) (by kernel_rfl) (X.dwN rfl) (fun w' hk' => X.move rfl) ?_
    refine X.dTake 3 rfl (by kernel_rfl) (by kernel_rfl) (by kernel_rfl) (X.dwN rfl) (fun w' hk' => X.move (v := .int .i64 _) rfl) ?_
    refine X.dTake 4 rfl (by kernel_rfl) (by kernel_rfl) (by kernel_rfl) (X.dwN rfl) (fun w' hk' => X.move rfl) ?_
    refine X.dTake 5 rfl (by kernel_rfl) (by kernel_rfl) (by kernel_rfl) (X.dwN rfl) (fun w' hk' => X.lenSl Try.underlying28 rfl) ?_
    refine X.dTake 6 rfl (by kernel_rfl) (by kernel_rfl) (by kernel_rfl) (X.dwN rfl) (fun w' hk' => minN rfl rfl) ?_
    refine X.dTake 7 rfl (by kernel_rfl) (by kernel_rfl) (by kernel_rfl) (X.dwN rfl) (fun w' hk' => X.cutHr Try.underlying28 Try.sizeOf30 rfl rfl (by omega)) ?_
    refine X.dE (i := 1) (by kernel_rfl) rfl (X.dwN rfl) (X.callE (Keys_c _ (hC.keep hk16) (by omega)) Try.call13 rfl rfl) (by rintro _ w17 ⟨kA, kc, rfl, hkc, hkM, hk17⟩ _; exact hk17.mono (fun _ _ h => h.elim)) ?_
    rintro _ w17 ⟨kA, kc, rfl, hkc, hkM, hk17⟩
    have hk17' := hk17.size
    refine X.dE (i := 8) (by kernel_rfl) rfl (X.dwN rfl) (X.callE (SameKeys_c _ (mine_0 KPk_flat hkM 0 (fun _ _ => Nat.zero_le _)) (((mine_0 KPk_flat hM 0 (fun _ _ => Nat.zero_le _)).take _ (by omega)).keep (hk16.trans hk17))) Try.call12 rfl rfl) (by rintro _ w18 ⟨rfl, hk18⟩ _; exact hk18.mono (fun _ _ h => h.elim)) ?_
    rintro _ w18 ⟨rfl, hk18⟩
    have hk18' := hk18.size
    refine X.dStep (i := 9) (by kernel_rfl) rfl (X.dwN rfl) (X.assign (v := .bool _) rfl) (fun h => absurd h (by decide)) ?_
    refine X.dEnd (by kernel_rfl) ?_
    refine X.ret1 (v := (.bool _)) Try.func3 Try.results3 rfl ?_
    refine ⟨by congr 1; refine decide_eq_true ?_; rw [hL, ← hn8]; exact take_min r xs, (((hk.trans hk16).trans hk17).trans hk18)⟩
end Go.Proofs.Ytjjhddjllpihaaa
