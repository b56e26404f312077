/- What the tuple of a key is taken as. -/
import Derived.Test.YtaclpphhidlgpaaPackR
namespace Go.Proofs.Ytaclpphhidlgpaa
open Go Go.Proofs.Ytaclpphhidlgpaa.X
set_option linter.unusedVariables false
set_option linter.unusedSimpArgs false

theorem mineV1 {α : Type} {K : Kd α} {e : TypeId} {S : Nat → Prop} {w : World} {v : Value} {l : List α} (h : Mine K e S 0 0 w v l) : v.oneCell' = true := by
  obtain ⟨A, c, rfl, _⟩ := h.slice; rfl
theorem takeKey_c {A : Option Addr} {n c : Nat} {xs : List UInt8} (w : World) (hs : Sl KB 0 w.heap.size w A n xs) (hnc : n ≤ c) (hn : n ≤ 1000000) :
    Ret Try.prog 45 #[.slice A n c, .func (.func 46) #[] #[]] w fun r w' => ∃ v, r = .tuple #[v, .int .i64 (if (pFrom xs).isSome then (n : Int) else 0), .int .i64 (if (pFrom xs).isSome then 0 else 30)] ∧ Mine KV 75 (fun k => w.heap.size ≤ k) 0 0 w' v ((pFrom xs).getD []) ∧ Keep w w' := by
  refine (take_tup (fun xs => (pFrom xs).map fun l => (l, [])) (fun wb a v w1 => Mine KV 75 (fun k => wb.heap.size ≤ k) 0 0 w1 v a ∧ (∀ u ∈ a, okV u) ∧ isT a = true) 46 [] Try.call46 xs A n c w hs hnc hn (fun wb a v w1 h => mineV1 h.1)
    (fun wb a v w1 w2 U h x hU => ⟨h.1.ext x (fun k _ hk => by omega) (fun k hk hu => by have := hU k hu; omega), h.2⟩) (fun w' rb hk hR => fromKey1_c rb rb n xs w' hR)).mono fun r w' h => ?_
  obtain ⟨h, hk⟩ := h
  cases hp : pFrom xs with
  | none =>
    simp only [hp, Option.map_none] at h
    exact ⟨_, h, Mine.nil _ _ _ _ _ _, hk⟩
  | some l =>
    simp only [hp, Option.map_some] at h
    obtain ⟨v, wb, h1, h2, h3, _⟩ := h
    exact ⟨v, by rw [h1]; simp, h2.1.mono (fun k _ hk' => Nat.le_trans h3.size hk'), hk⟩
-- f29 "pedigree/pack.FromKey" params [25] results [23, 26] -> [(ResultVar.tmp 2), (ResultVar.tmp 3)] nfree 0 
set_option maxHeartbeats 4000000 in
set_option maxRecDepth 100000 in
theorem FromKey_c {A : Option Addr} {n c : Nat} {xs : List UInt8} (w : World) (hs : Sl KB 0 w.heap.size w A n xs) (hnc : n ≤ c) (hn : n ≤ 1000000) :
    Ret Try.prog 29 #[.slice A n c] w fun r w' => ∃ v, r = .tuple #[v, .int .i64 (if (pFrom xs).isSome then 0 else 30)] ∧ Mine KV 75 (fun k => w.heap.size ≤ k) 0 0 w' v ((pFrom xs).getD []) ∧ Keep w w' := by
  refine X.enter Try.func29 rfl Try.ntmps29 rfl ?_
  refine X.seq ?_
  refine X.region ?_
  refine X.opw X.wN rfl (X.assign rfl) ?_
  refine X.opw X.wN rfl (X.assign rfl) ?_
  refine X.opsEnd ?_
  refine X.seq ?_
  refine X.region ?_
  refine X.opw X.wN rfl (X.move (v := .slice _ _ _) rfl) ?_
  refine X.opE X.wN rfl (X.callE (takeKey_c _ hs hnc hn) Try.call45 rfl rfl) ?_
  rintro _ w1 ⟨v1, rfl, hM1, hk1⟩
  have hk1' := hk1.size
  refine X.opw X.wN rfl (X.move rfl) ?_
  refine X.opw X.wN rfl (X.extr rfl rfl) ?_
  refine X.opw X.wN rfl (X.extr rfl rfl) ?_
  refine X.opw X.wN rfl (X.extr rfl rfl) ?_
  refine X.opw X.wN rfl (X.assign rfl) ?_
  refine X.opw X.wN rfl (X.assign (v := .int .i64 _) rfl) ?_
  refine X.opw X.wN rfl (X.assign (v := .int .i64 _) rfl) ?_
  refine X.opsEnd ?_
  refine X.seq ?_
  refine X.region ?_
  refine X.opw X.wN rfl (X.move rfl) ?_
  refine X.opw X.wN rfl (X.move (v := .int .i64 _) rfl) ?_
  refine X.opw X.wN rfl (X.assign rfl) ?_
  refine X.opw X.wN rfl (X.assign (v := .int .i64 _) rfl) ?_
  refine X.opsEnd ?_
  refine X.ret2 (v2 := (.int .i64 _)) Try.func29 Try.results29 rfl rfl ?_
  exact ⟨_, rfl, hM1, hk1⟩
end Go.Proofs.Ytaclpphhidlgpaa
