/- Nothing: cursors of nil. -/
import Derived.Test.YtgfficbkajcdpaaMergeX
import Derived.Test.YtgfficbkajcdpaaProg
namespace Go.Proofs.Ytgfficbkajcdpaa
open Go Go.Proofs.Ytgfficbkajcdpaa.X
set_option linter.unusedVariables false
set_option linter.unusedSimpArgs false
-- f45 "pedigree/merge.none[pedigree/pedigreeref09.Thing]" params [] results [33] -> [(ResultVar.tmp 0)] nfree
set_option maxHeartbeats 4000000 in
set_option maxRecDepth 100000 in
theorem none_c (B : Nat) (w : World) (hB : B ≤ w.heap.size) : Ret Try.prog 45 #[] w fun r w' => (∃ p', r = .iface 84 p') ∧ CV B (fun k => w.heap.size ≤ k ∧ k < w'.heap.size) r [] w' ∧ Keep w w' := by
  refine X.enter Try.func45 rfl Try.ntmps45 rfl ?_
  refine X.seq ?_
  refine X.region ?_
  refine X.opw X.wN rfl (X.assign rfl) ?_
  refine X.opsEnd ?_
  refine X.seq ?_
  refine X.region ?_
  refine X.opw X.wN rfl (X.buildB (vs := [(1, .bool true)]) (cs := #[.nilFunc, .bool true]) rfl (by kernel_rfl)) ?_
  refine X.opE X.wN rfl (X.boxE rfl rfl) ?_
  rintro _ w1 ⟨rfl, hB1, hk1, hz1⟩
  refine X.opw X.wN rfl (X.mkIface Try.underlying84 rfl rfl) ?_
  refine X.opw X.wN rfl (X.assign rfl) ?_
  refine X.opsEnd ?_
  refine X.ret1 Try.func45 Try.results45 rfl ?_
  exact ⟨⟨_, rfl⟩, .inr ⟨_, rfl, (Cur.none hB1 (fun w h => next_over _ _ w h)).wide (fun k hk => by (try simp only [] at *); omega)⟩, hk1⟩
-- f26 "pedigree/merge.Once[pedigree/pedigreeref09.Thing]" params [35, 33] results [33] -> [(ResultVar.tmp 4)]
set_option maxHeartbeats 4000000 in
set_option maxRecDepth 100000 in
theorem OnceN_c (B : Nat) (c : Value) (w : World) (hB : B ≤ w.heap.size) : Ret Try.prog 26 #[.nilFunc, .iface 84 c] w fun r w' => (∃ p', r = .iface 84 p') ∧ CV B (fun k => w.heap.size ≤ k ∧ k < w'.heap.size) r [] w' ∧ Keep w w' := by
  refine X.enter Try.func26 rfl Try.ntmps26 rfl ?_
  refine X.seq ?_
  refine X.region ?_
  refine X.opE X.wN rfl (X.boxE rfl rfl) ?_
  rintro _ w1 ⟨rfl, hB1, hk1, hz1⟩
  refine X.opE X.wN rfl (X.boxE rfl rfl) ?_
  rintro _ w2 ⟨rfl, hB2, hk2, hz2⟩
  refine X.opw X.wN rfl (X.assign rfl) ?_
  refine X.opsEnd ?_
  refine X.seq ?_
  refine X.seq ?_
  refine X.region ?_
  refine X.opw X.wN rfl (X.load1B Try.isAgg35 (hB1.keep hk2) rfl rfl) ?_
  refine X.opw X.wN rfl (X.eqFn0 Try.underlying35 rfl rfl) ?_
  refine X.opw X.wN rfl (X.move (v := .bool true) rfl) ?_
  refine X.opS rfl rfl rfl rfl rfl ?_
  refine X.opS rfl rfl rfl rfl rfl ?_
  refine X.opw X.wN rfl (X.pickT (v := .bool true) rfl rfl) ?_
  refine X.opsEnd ?_
  refine X.condT rfl ?_
  refine X.seq ?_
  refine X.region ?_
  refine X.opE X.wN rfl (X.callE (none_c B _ (by omega)) Try.call45 rfl rfl) ?_
  rintro _ w3 ⟨⟨p3, rfl⟩, hC3, hk3⟩
  have hk3' := hk3.size
  refine X.opw X.wN rfl (X.assign rfl) ?_
  refine X.opsEnd ?_
  refine X.ret1 Try.func26 Try.results26 rfl ?_
  exact ⟨⟨_, rfl⟩, (hC3).wide (fun k hk => by (try simp only [] at *); omega), ((hk1.trans hk2).trans hk3)⟩
-- f33 "pedigree/merge.Only[pedigree/pedigreeref09.Thing]" params [46, 33] results [33] -> [(ResultVar.tmp 4)]
set_option maxHeartbeats 4000000 in
set_option maxRecDepth 100000 in
theorem OnlyN_c (B : Nat) (c : Value) (w : World) (hB : B ≤ w.heap.size) : Ret Try.prog 33 #[.nilFunc, .iface 84 c] w fun r w' => (∃ p', r = .iface 84 p') ∧ CV B (fun k => w.heap.size ≤ k ∧ k < w'.heap.size) r [] w' ∧ Keep w w' := by
  refine X.enter Try.func33 rfl Try.ntmps33 rfl ?_
  refine X.seq ?_
  refine X.region ?_
  refine X.opE X.wN rfl (X.boxE rfl rfl) ?_
  rintro _ w1 ⟨rfl, hB1, hk1, hz1⟩
  refine X.opE X.wN rfl (X.boxE rfl rfl) ?_
  rintro _ w2 ⟨rfl, hB2, hk2, hz2⟩
  refine X.opw X.wN rfl (X.assign rfl) ?_
  refine X.opsEnd ?_
  refine X.seq ?_
  refine X.seq ?_
  refine X.region ?_
  refine X.opw X.wN rfl (X.load1B Try.isAgg46 (hB1.keep hk2) rfl rfl) ?_
  refine X.opw X.wN rfl (X.eqFn0 Try.underlying46 rfl rfl) ?_
  refine X.opw X.wN rfl (X.move (v := .bool true) rfl) ?_
  refine X.opS rfl rfl rfl rfl rfl ?_
  refine X.opS rfl rfl rfl rfl rfl ?_
  refine X.opw X.wN rfl (X.pickT (v := .bool true) rfl rfl) ?_
  refine X.opsEnd ?_
  refine X.condT rfl ?_
  refine X.seq ?_
  refine X.region ?_
  refine X.opE X.wN rfl (X.callE (none_c B _ (by omega)) Try.call45 rfl rfl) ?_
  rintro _ w3 ⟨⟨p3, rfl⟩, hC3, hk3⟩
  have hk3' := hk3.size
  refine X.opw X.wN rfl (X.assign rfl) ?_
  refine X.opsEnd ?_
  refine X.ret1 Try.func33 Try.results33 rfl ?_
  exact ⟨⟨_, rfl⟩, (hC3).wide (fun k hk => by (try simp only [] at *); omega), ((hk1.trans hk2).trans hk3)⟩
-- f34 "pedigree/merge.First[pedigree/pedigreeref09.Thing]" params [3, 33] results [33] -> [(ResultVar.tmp 4)]
set_option maxHeartbeats 4000000 in
set_option maxRecDepth 100000 in
theorem FirstN_c (B : Nat) (a : Int) (w : World) (hB : B ≤ w.heap.size) : Ret Try.prog 34 #[.int .i64 a, .nilIface] w fun r w' => (∃ p', r = .iface 84 p') ∧ CV B (fun k => w.heap.size ≤ k ∧ k < w'.heap.size) r [] w' ∧ Keep w w' := by
  refine X.enter Try.func34 rfl Try.ntmps34 rfl ?_
  refine X.seq ?_
  refine X.region ?_
  refine X.opE X.wN rfl (X.boxE rfl rfl) ?_
  rintro _ w1 ⟨rfl, hB1, hk1, hz1⟩
  refine X.opE X.wN rfl (X.boxE rfl rfl) ?_
  rintro _ w2 ⟨rfl, hB2, hk2, hz2⟩
  refine X.opw X.wN rfl (X.assign rfl) ?_
  refine X.opsEnd ?_
  refine X.seq ?_
  refine X.seq ?_
  refine X.region ?_
  refine X.opw X.wN rfl (X.load1B Try.isAgg33 hB2 rfl rfl) ?_
  refine X.opw X.wN rfl (X.eqIf0 Try.underlying33 rfl rfl) ?_
  refine X.opsEnd ?_
  refine X.condT rfl ?_
  refine X.seq ?_
  refine X.region ?_
  refine X.opE X.wN rfl (X.callE (none_c B _ (by omega)) Try.call45 rfl rfl) ?_
  rintro _ w3 ⟨⟨p3, rfl⟩, hC3, hk3⟩
  have hk3' := hk3.size
  refine X.opw X.wN rfl (X.assign rfl) ?_
  refine X.opsEnd ?_
  refine X.ret1 Try.func34 Try.results34 rfl ?_
  exact ⟨⟨_, rfl⟩, (hC3).wide (fun k hk => by (try simp only [] at *); omega), ((hk1.trans hk2).trans hk3)⟩
-- f54 "pedigree/merge.held[pedigree/pedigreeref09.Thing]" params [35, 33, 33, 4] results [33] -> [(ResultVar.
set_option maxHeartbeats 4000000 in
set_option maxRecDepth 100000 in
theorem heldN_c (B : Nat) (t : Bool) {y : Value} {fn : Fn} {bs ca : Array Value} (w : World) (hB : B ≤ w.heap.size) : Ret Try.prog 54 #[.func fn bs ca, .nilIface, y, .bool t] w fun r w' => (∃ p', r = .iface 84 p') ∧ CV B (fun k => w.heap.size ≤ k ∧ k < w'.heap.size) r [] w' ∧ Keep w w' := by
  refine X.enter Try.func54 rfl Try.ntmps54 rfl ?_
  refine X.seq ?_
  refine X.region ?_
  refine X.opE X.wN rfl (X.boxE rfl rfl) ?_
  rintro _ w1 ⟨rfl, hB1, hk1, hz1⟩
  refine X.opE X.wN rfl (X.boxE rfl rfl) ?_
  rintro _ w2 ⟨rfl, hB2, hk2, hz2⟩
  refine X.opE X.wN rfl (X.boxE rfl rfl) ?_
  rintro _ w3 ⟨rfl, hB3, hk3, hz3⟩
  refine X.opw X.wN rfl (X.assign rfl) ?_
  refine X.opsEnd ?_
  refine X.seq ?_
  refine X.seq ?_
  refine X.region ?_
  refine X.opw X.wN rfl (X.load1B Try.isAgg35 (hB1.keep (hk2.trans hk3)) rfl rfl) ?_
  refine X.opw X.wN rfl (X.eqFn1 Try.underlying35 rfl rfl) ?_
  refine X.opw X.wN rfl (X.move (v := .bool false) rfl) ?_
  refine X.opw (X.wG rfl rfl rfl) rfl (X.load1B Try.isAgg33 (hB2.keep hk3) rfl rfl) ?_
  refine X.opw (X.wG rfl rfl rfl) rfl (X.eqIf0 Try.underlying33 rfl rfl) ?_
  refine X.opw X.wN rfl (X.pickF (v := .bool true) rfl rfl) ?_
  refine X.opsEnd ?_
  refine X.condT rfl ?_
  refine X.seq ?_
  refine X.region ?_
  refine X.opE X.wN rfl (X.callE (none_c B _ (by omega)) Try.call45 rfl rfl) ?_
  rintro _ w4 ⟨⟨p4, rfl⟩, hC4, hk4⟩
  have hk4' := hk4.size
  refine X.opw X.wN rfl (X.assign rfl) ?_
  refine X.opsEnd ?_
  refine X.ret1 Try.func54 Try.results54 rfl ?_
  exact ⟨⟨_, rfl⟩, (hC4).wide (fun k hk => by (try simp only [] at *); omega), (((hk1.trans hk2).trans hk3).trans hk4)⟩
-- f28 "pedigree/merge.Both[pedigree/pedigreeref09.Thing]" params [35, 33, 33] results [33] -> [(ResultVar.tmp
set_option maxHeartbeats 4000000 in
set_option maxRecDepth 100000 in
theorem BothN_c (B : Nat) {y : Value} {fn : Fn} {bs ca : Array Value} (w : World) (hB : B ≤ w.heap.size) : Ret Try.prog 28 #[.func fn bs ca, .nilIface, y] w fun r w' => (∃ p', r = .iface 84 p') ∧ CV B (fun k => w.heap.size ≤ k ∧ k < w'.heap.size) r [] w' ∧ Keep w w' := by
  refine X.enter Try.func28 rfl Try.ntmps28 rfl ?_
  refine X.seq ?_
  refine X.region ?_
  refine X.opw X.wN rfl (X.assign rfl) ?_
  refine X.opsEnd ?_
  refine X.seq ?_
  refine X.region ?_
  refine X.opw X.wN rfl (X.move rfl) ?_
  refine X.opw X.wN rfl (X.move rfl) ?_
  refine X.opw X.wN rfl (X.move rfl) ?_
  refine X.opE X.wN rfl (X.callE (heldN_c B true _ hB) Try.call54 rfl rfl) ?_
  rintro _ w1 ⟨⟨p1, rfl⟩, hC1, hk1⟩
  have hk1' := hk1.size
  refine X.opw X.wN rfl (X.assign rfl) ?_
  refine X.opsEnd ?_
  refine X.ret1 Try.func28 Try.results28 rfl ?_
  exact ⟨⟨_, rfl⟩, (hC1).wide (fun k hk => by (try simp only [] at *); omega), hk1⟩
/-- One list alone. -/
theorem mg_one {i : Nat} : ∀ (t n : Nat) (L : Nat → List TH), totL L n = t → i < n → (∀ j, j < n → j ≠ i → L j = []) → mgC n L = L i
  | 0, n, L, h, hi, _ => by
    have : (L i).length = 0 := by
      have key : ∀ m, i < m → (L i).length ≤ totL L m := by
        intro m
        induction m with
        | zero => intro h; omega
        | succ m ih =>
          intro h
          rw [totL]
          by_cases e : i = m
          · subst e; omega
          · have := ih (by omega); omega
      have := key n hi
      omega
    rw [mgC, h, List.eq_nil_of_length_eq_zero this]; rfl
  | t + 1, n, L, h, hi, hz => by
    cases hp : pk L n with
    | none => rw [mgC_none hp, pk_none hp i hi]
    | some q =>
      obtain ⟨j, x⟩ := q
      obtain ⟨h1, l, h2⟩ := pk_some hp
      have hji : j = i := by
        by_cases e : j = i
        · exact e
        · rw [hz j h1 e] at h2; cases h2
      subst hji
      have ht := totL_upd h2 n
      rw [if_pos h1] at ht
      rw [mgC_some hp, mg_one t n (updL L j) (by omega) hi (fun k hk hne => by rw [updL, if_neg hne]; exact hz k hk hne), updL, if_pos rfl, h2]
      rfl
end Go.Proofs.Ytgfficbkajcdpaa
