/- Merge. -/
import Derived.Test.YtgfficbkajcdpaaMergeF
import Derived.Test.YtgfficbkajcdpaaProg
namespace Go.Proofs.Ytgfficbkajcdpaa
open Go Go.Proofs.Ytgfficbkajcdpaa.X
set_option linter.unusedVariables false
set_option linter.unusedSimpArgs false
abbrev ptrV (b : Nat) : Value := .pointer (some ⟨b, 0, none⟩)
def IsC (y : Value) : Prop := y = .nilIface ∨ ∃ p, y = .iface 84 p
theorem build_hd (y : Value) (h : IsC y) : Try.prog.built 112 [(0, y)] = some #[y, .int .i8 0, .int .i64 0, .bool false, .bool false] := by
  rcases h with rfl | ⟨p, rfl⟩ <;> kernel_rfl
theorem mem_at {l : List Nat} {i b : Nat} (h : l[i]? = some b) : b ∈ l := List.mem_of_getElem? h
theorem EPh : ElemInfo Try.prog 85 1 8 := ElemInfo.of (z := .pointer none) (by kernel_rfl) rfl rfl rfl
-- f46 "pedigree/merge.heads[pedigree/pedigreeref09.Thing]" params [36] results [82] -> [(ResultVar.tmp 2)] nf
set_option maxHeartbeats 4000000 in
set_option maxRecDepth 100000 in
theorem heads_c {lo hi : Nat} {A : Option Addr} {n c : Nat} {cs : List Value} (w : World) (hs : Sl KR1 lo hi w A n cs) (hn : n ≤ 1000000) (hci : ∀ (i : Nat) y, cs[i]? = some y → IsC y) : Ret Try.prog 46 #[.slice A n c] w fun r w' => ∃ hbs : List Nat, hbs.length = n ∧ Mine KR1 85 (fun k => w.heap.size ≤ k ∧ k ∉ hbs) 0 0 w' r (hbs.map ptrV) ∧ (∀ (i b : Nat), hbs[i]? = some b → ∃ cv, cs[i]? = some cv ∧ Blk w' b (hdL cv (0, 0) false false) 112) ∧ (∀ b, b ∈ hbs → w.heap.size ≤ b ∧ b < w'.heap.size) ∧ hbs.Nodup ∧ Keep w w' := by
  have hl := hs.len
  refine X.enter Try.func46 rfl Try.ntmps46 rfl ?_
  refine X.seq ?_
  refine X.region ?_
  refine X.opw X.wN rfl (X.assign rfl) ?_
  refine X.opsEnd ?_
  refine X.seq ?_
  refine X.region ?_
  refine X.opw X.wN rfl (X.assign rfl) ?_
  refine X.opsEnd ?_
  refine X.seq ?_
  refine X.seq ?_
  refine X.region ?_
  refine X.opw X.wN rfl (X.move (v := .slice _ _ _) rfl) ?_
  refine X.opw X.wN rfl (X.lenSl Try.underlying36 rfl) ?_
  refine X.opw X.wN rfl (X.move rfl) ?_
  refine X.opsEnd ?_
  refine X.block ?_
  -- LOOP live: 3=out*, 6, 7, 8*
  refine X.loopL (σ := Nat × Value × List Nat) (fun s => [(3, s.2.1), (6, .slice A n c), (7, .int .i64 (n : Int)), (8, .int .i64 (s.1 : Int))]) (fun s w' => s.2.2.length = s.1 ∧ s.1 ≤ n ∧ Mine KR1 85 (fun k => w.heap.size ≤ k ∧ k ∉ s.2.2) 0 0 w' s.2.1 (s.2.2.map ptrV) ∧ (∀ (i b : Nat), s.2.2[i]? = some b → ∃ cv, cs[i]? = some cv ∧ Blk w' b (hdL cv (0, 0) false false) 112) ∧ (∀ b, b ∈ s.2.2 → w.heap.size ≤ b ∧ b < w'.heap.size) ∧ s.2.2.Nodup ∧ Keep w w') (fun s => n - s.1) (0, _, []) ⟨rfl, rfl, rfl, rfl, trivial⟩ ⟨rfl, by omega, Mine.nil _ _ _ _ _ _, fun i b h => by simp at h, fun b h => by simp at h, List.nodup_nil, (Keep.refl _)⟩ ?_
  rintro ⟨j, v, hbs⟩ b0 wl ⟨hj, hjn, hM, hbk, hbb, hnd, hk⟩ hback
  dsimp only
  simp only at hj hjn hM hbk hbb hnd
  have hk' := hk.size
  refine X.seq ?_
  refine X.region ?_
  refine X.opP X.wN rfl rfl (X.lss rfl rfl) (fun h9 => ?_) (fun h9 => ?_)
  · obtain ⟨y, hcj⟩ := getN j hl h9
    refine X.opsEnd ?_
    refine X.seq ?_
    refine X.condT rfl ?_
    refine X.skip ?_
    refine X.seq ?_
    refine X.block ?_
    refine X.seq ?_
    refine X.region ?_
    refine X.opw X.wN rfl (X.idxS (hs.keep hk) Try.underlying36 Try.sizeOf33 rfl rfl ⟨by omega, by omega⟩) ?_
    refine X.opw X.wN rfl (X.loadS Try.isAgg33 (hs.keep hk) hcj rfl (fun _ h => by rw [h.1]; rfl)) ?_
    refine X.opw X.wN rfl (X.assign rfl) ?_
    refine X.opsEnd ?_
    refine X.region ?_
    refine X.opw X.wN rfl (X.move rfl) ?_
    refine X.opw X.wN rfl (X.move rfl) ?_
    refine X.opw X.wN rfl (X.buildB (vs := [(0, y)]) (cs := #[y, .int .i8 0, .int .i64 0, .bool false, .bool false]) rfl (build_hd y (hci j y hcj))) ?_
    refine X.opE X.wN rfl (X.boxE rfl rfl) ?_
    rintro _ w1 ⟨rfl, hB1, hk1, hz1⟩
    refine X.opE X.wN rfl (X.litKF KR1_flat (K := KR1) (xs := [Operand.tmp 15]) (vs := [ptrV (wl.heap.size)]) (ys := [ptrV (wl.heap.size)]) Try.underlying82 Try.sizeOf85 Try.zeroValue85 rfl rfl rfl rfl rfl (reps_1 rfl rfl)) ?_
    rintro _ w2 ⟨rfl, hs2, hB2, hk2, hz2⟩
    refine X.opE X.wN rfl (X.appE (K := KR1) (S := fun k => w.heap.size ≤ k ∧ k ∉ hbs ++ [wl.heap.size]) KR1_flat Try.underlying82 EPh rfl rfl ((hM.mono (T := fun k => w.heap.size ≤ k ∧ k ∉ hbs ++ [wl.heap.size]) (fun k hk hs => ⟨hs.1, fun h => (List.mem_append.1 h).elim hs.2 (fun h => by have := List.mem_singleton.1 h; omega)⟩)).keep (hk1.trans hk2)) hs2 (by rw [List.length_map]; (try simp only [List.length_singleton]); omega) (fun k hk => ⟨by omega, fun h => (List.mem_append.1 h).elim (fun h => by have := hbb k h; omega) (fun h => by have := List.mem_singleton.1 h; omega)⟩)) ?_
    rintro v3 w3 ⟨hM3, hx3⟩
    have hx3' := hx3.size
    refine X.opw X.wN rfl (X.assign rfl) ?_
    refine X.opsEnd ?_
    refine X.inBlock ?_
    refine X.region ?_
    refine X.opw X.wN rfl (X.add rfl rfl (X.w_i64 (by omega))) ?_
    refine X.opw X.wN rfl (X.move (v := .int .i64 _) rfl) ?_
    refine X.opsEnd ?_
    have hblk : ∀ (i x : Nat), (hbs ++ [wl.heap.size])[i]? = some x → ∃ cv, cs[i]? = some cv ∧ Blk w3 x (hdL cv (0, 0) false false) 112 := by
      intro i x hix
      by_cases hi : i < hbs.length
      · rw [List.getElem?_append_left hi] at hix
        obtain ⟨cv, h1, h2⟩ := hbk i x hix
        exact ⟨cv, h1, (h2.keep (hk1.trans hk2)).ext hx3 (fun h => h.2 (List.mem_append.2 (.inl (mem_at hix))))⟩
      · rw [List.getElem?_append_right (by omega)] at hix
        have h0 : i - hbs.length = 0 := by
          have := (List.getElem?_eq_some_iff.1 hix).1
          simp at this; omega
        rw [h0] at hix
        simp at hix
        rw [← hix, show i = j by omega]
        exact ⟨_, hcj, ((hB1.keep hk2)).ext hx3 (fun h => h.2 (List.mem_append.2 (.inr (List.mem_singleton.2 rfl))))⟩
    have hbb2 : ∀ x, x ∈ hbs ++ [wl.heap.size] → w.heap.size ≤ x ∧ x < w3.heap.size := by
      intro x hx
      rcases List.mem_append.1 hx with h | h
      · have := hbb x h; omega
      · have := List.mem_singleton.1 h; omega
    have hnd2 : (hbs ++ [wl.heap.size]).Nodup := by
      rw [List.nodup_append]
      refine ⟨hnd, by simp, fun x hx y hy => ?_⟩
      have := hbb x hx
      have := List.mem_singleton.1 hy
      omega
    refine hback (j + 1, _, hbs ++ [wl.heap.size]) _ _ ⟨rfl, rfl, rfl, rfl, trivial⟩ ⟨by dsimp only; rw [List.length_append, hj]; rfl, by dsimp only; omega, by dsimp only; rw [List.map_append]; exact hM3, hblk, hbb2, hnd2, (((hk.trans hk1).trans hk2).step hx3 (by intros; (try simp only [] at *); omega))⟩ (by dsimp only; omega)
  · refine X.opsEnd ?_
    refine X.seq ?_
    refine X.condF rfl ?_
    refine X.exit rfl ?_
    refine X.seq ?_
    refine X.region ?_
    refine X.opw X.wN rfl (X.move rfl) ?_
    refine X.opw X.wN rfl (X.assign rfl) ?_
    refine X.opsEnd ?_
    refine X.ret1 Try.func46 Try.results46 rfl ?_
    exact ⟨hbs, by omega, hM, hbk, hbb, hnd, hk⟩
end Go.Proofs.Ytgfficbkajcdpaa
