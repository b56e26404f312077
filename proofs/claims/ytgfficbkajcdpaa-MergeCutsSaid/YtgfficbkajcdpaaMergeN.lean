/- The walk of the law MergeHolds. -/
import Derived.Test.YtgfficbkajcdpaaMergeM
import Derived.Test.YtgfficbkajcdpaaXOpen
import Derived.Test.YtgfficbkajcdpaaProg
namespace Go.Proofs.Ytgfficbkajcdpaa
open Go Go.Proofs.Ytgfficbkajcdpaa.X
set_option linter.unusedVariables false
set_option linter.unusedSimpArgs false
theorem rest_b {B : Nat} {T : Nat → Prop} {p : Value} {xs : List TH} (w : World) (h : Cur Try.prog evT (0, 0) NX B T p xs w) (hB : B ≤ w.heap.size) (hTb : ∀ k, T k → k < w.heap.size) (hxl : xs.length < 2000) : Ret Try.prog 15 #[.iface 84 p] w fun r w' => ∃ v, r = .tuple #[v, .bool true] ∧ Mine KTh 29 (fun k => w.heap.size ≤ k ∧ k < w'.heap.size) 0 0 w' v xs ∧ Ext T w w' :=
  (rest_c w h hB hTb hxl).mono fun r w' ⟨v, h1, h2, h3⟩ => ⟨v, h1, h2.mono fun k hk hs => ⟨hs, hk⟩, h3⟩
theorem heldL_len (t : Bool) : ∀ xs ys, (heldL t xs ys).length ≤ xs.length
  | [], _ => Nat.le_refl _
  | x :: xs, ys => by
    have := heldL_len t xs (skipT x ys)
    rw [heldL]; split
    · simp; omega
    · simp; omega
theorem sl_things {lo hi : Nat} {w : World} {A : Option Addr} {n : Nat} {l : List TH} (h : Sl (Kd.pair (KN .i8) KI) lo hi w A n l) : Sl KTh lo hi w A n l := by
  refine ⟨h.len, h.bound, fun hn => ?_⟩
  obtain ⟨ad, e, h1, h2, hc⟩ := h.at_ hn
  refine ⟨ad, e, h1, h2, fun j x hx => ?_⟩
  obtain ⟨cs, ⟨a, b, rfl, ⟨rfl, _⟩, ⟨rfl, _⟩⟩, hq⟩ := hc j x hx
  exact ⟨_, ⟨rfl, trivial⟩, hq⟩
theorem take_lt (l : List TH) : (l.take 30).length < 2000 := by rw [List.length_take]; omega
-- f6 "pedigree/pedigreelaw09.MergeHolds" params [24, 24] results [4] -> [(ResultVar.tmp 4)] nfree 0 ntmps 52 
set_option maxHeartbeats 4000000 in
set_option maxRecDepth 100000 in
theorem MergeHolds_c (w : World) (A1 : Option Addr) (n1 c1 : Nat) (l1 : List TH) (hc1 : n1 ≤ c1) (s1 : Sl (Kd.pair (KN .i8) KI) 0 w.heap.size w A1 n1 l1) (A2 : Option Addr) (n2 c2 : Nat) (l2 : List TH) (hc2 : n2 ≤ c2) (s2 : Sl (Kd.pair (KN .i8) KI) 0 w.heap.size w A2 n2 l2) :
    Ret Try.prog 6 #[.slice A1 n1 c1, .slice A2 n2 c2] w fun r w' => r = .bool true ∧ Keep w w' := by
  have hs1 := sl_things s1
  have hs2 := sl_things s2
  refine X.enter Try.func6 rfl Try.ntmps6 rfl ?_
  refine X.seq ?_
  refine X.region ?_
  refine X.opw X.wN rfl (X.assign rfl) ?_
  refine X.opsEnd ?_
  refine X.seq ?_
  refine X.region ?_
  refine X.opw X.wN rfl (X.move (v := .slice _ _ _) rfl) ?_
  refine X.opE X.wN rfl (X.callE (short_c _ hs1 (by omega)) Try.call19 rfl rfl) ?_
  rintro _ w1 ⟨m1, rfl, hmc1, hm31, hs1, hk1⟩
  have hk1' := hk1.size
  refine X.opw X.wN rfl (X.move (v := .slice _ _ _) rfl) ?_
  refine X.opE X.wN rfl (X.callE (short_c _ (hs2.keep hk1) (by omega)) Try.call19 rfl rfl) ?_
  rintro _ w2 ⟨m2, rfl, hmc2, hm32, hs2, hk2⟩
  have hk2' := hk2.size
  refine X.opw X.wN rfl (X.assign (v := .slice _ _ _) rfl) ?_
  refine X.opw X.wN rfl (X.assign (v := .slice _ _ _) rfl) ?_
  refine X.opsEnd ?_
  refine X.seq ?_
  refine X.region ?_
  refine X.opw X.wN rfl (X.move (v := .slice _ _ _) rfl) ?_
  refine X.opE X.wN rfl (X.callE (Of_c w.heap.size _ (hs1.keep hk2) (by omega) (by omega)) Try.call20 rfl rfl) ?_
  rintro _ w3 ⟨bm3, rfl, hC3, hk3⟩
  have hk3' := hk3.size
  refine X.opw X.wN rfl (X.move (v := .slice _ _ _) rfl) ?_
  refine X.opE X.wN rfl (X.callE (Of_c w.heap.size _ (hs2.keep hk3) (by omega) (by omega)) Try.call20 rfl rfl) ?_
  rintro _ w4 ⟨bm4, rfl, hC4, hk4⟩
  have hk4' := hk4.size
  refine X.opE X.wN rfl (X.callE (Both_c _ (hC3.keep hk4) hC4 (by omega) (by omega) (by omega) (by omega) (by omega) cmpOk17) Try.call28 rfl rfl) ?_
  rintro _ w5 ⟨⟨p5, rfl⟩, hC5, hk5⟩
  have hk5' := hk5.size
  refine X.opE X.wN rfl (X.callE (rest_b _ (CV.cur hC5) (by omega) (fun k hk => by (try simp only [] at *); omega) (Nat.lt_of_le_of_lt (heldL_len _ _ _) (take_lt _))) Try.call15 rfl rfl) ?_
  rintro _ w6 ⟨v6, rfl, hM6, hx6⟩
  have hx6' := hx6.size
  refine X.opw X.wN rfl (X.move rfl) ?_
  refine X.opw X.wN rfl (X.extr rfl rfl) ?_
  refine X.opw X.wN rfl (X.extr rfl rfl) ?_
  refine X.opw X.wN rfl (X.assign rfl) ?_
  refine X.opw X.wN rfl (X.assign (v := .bool _) rfl) ?_
  refine X.opsEnd ?_
  refine X.seq ?_
  refine X.region ?_
  refine X.opw X.wN rfl (X.move (v := .slice _ _ _) rfl) ?_
  refine X.opE X.wN rfl (X.callE (Of_c w.heap.size _ ((hs1.keep (((hk2.trans hk3).trans hk4).trans hk5)).ext hx6 (by intros; (try simp only []); omega)) (by omega) (by omega)) Try.call20 rfl rfl) ?_
  rintro _ w7 ⟨bm7, rfl, hC7, hk7⟩
  have hk7' := hk7.size
  refine X.opw X.wN rfl (X.move (v := .slice _ _ _) rfl) ?_
  refine X.opE X.wN rfl (X.callE (Of_c w.heap.size _ (((hs2.keep ((hk3.trans hk4).trans hk5)).ext hx6 (by intros; (try simp only []); omega)).keep hk7) (by omega) (by omega)) Try.call20 rfl rfl) ?_
  rintro _ w8 ⟨bm8, rfl, hC8, hk8⟩
  have hk8' := hk8.size
  refine X.opE X.wN rfl (X.callE (Less_c _ (hC7.keep hk8) hC8 (by omega) (by omega) (by omega) (by omega) (by omega) cmpOk17) Try.call29 rfl rfl) ?_
  rintro _ w9 ⟨⟨p9, rfl⟩, hC9, hk9⟩
  have hk9' := hk9.size
  refine X.opE X.wN rfl (X.callE (rest_b _ (CV.cur hC9) (by omega) (fun k hk => by (try simp only [] at *); omega) (Nat.lt_of_le_of_lt (heldL_len _ _ _) (take_lt _))) Try.call15 rfl rfl) ?_
  rintro _ w10 ⟨v10, rfl, hM10, hx10⟩
  have hx10' := hx10.size
  refine X.opw X.wN rfl (X.move rfl) ?_
  refine X.opw X.wN rfl (X.extr rfl rfl) ?_
  refine X.opw X.wN rfl (X.extr rfl rfl) ?_
  refine X.opw X.wN rfl (X.assign rfl) ?_
  refine X.opw X.wN rfl (X.assign (v := .bool _) rfl) ?_
  refine X.opsEnd ?_
  refine X.seq ?_
  refine X.region ?_
  refine X.opw X.wN rfl (X.move (v := .bool true) rfl) ?_
  refine X.opw X.wN rfl (X.move (v := .bool true) rfl) ?_
  refine X.opw (X.wG rfl rfl rfl) rfl (X.move (v := .bool true) rfl) ?_
  refine X.opw X.wN rfl (X.pickT (v := .bool true) rfl rfl) ?_
  refine X.opw X.wN rfl (X.move (v := .bool true) rfl) ?_
  refine X.opw (X.wG rfl rfl rfl) rfl (X.move rfl) ?_
  refine X.opw (X.wG rfl rfl rfl) rfl (X.move (v := .slice _ _ _) rfl) ?_
  refine X.opw (X.wG rfl rfl rfl) rfl (X.move (v := .slice _ _ _) rfl) ?_
  refine X.opE (X.wG rfl rfl rfl) rfl (X.callE ((RHeld_c true _ ((((hs1.keep (((hk2.trans hk3).trans hk4).trans hk5)).ext hx6 (by intros; (try simp only []); omega)).keep ((hk7.trans hk8).trans hk9)).ext hx10 (by intros; (try simp only []); omega)) ((((hs2.keep ((hk3.trans hk4).trans hk5)).ext hx6 (by intros; (try simp only []); omega)).keep ((hk7.trans hk8).trans hk9)).ext hx10 (by intros; (try simp only []); omega)) (by omega)).mono fun _ _ h => fresh_t h) Try.call30 rfl rfl) ?_
  rintro _ w11 ⟨A11, c11, rfl, hc11, hs11, hk11⟩
  have hk11' := hk11.size
  have q13 := (((hM6.keep ((hk7.trans hk8).trans hk9)).ext hx10 (by intros; (try simp only []); omega) (by intros; (try simp only []); omega)).keep hk11).slF KTh_flat 0 (fun _ _ => Nat.zero_le _)
  obtain ⟨A13, c13, rfl, hc13, hs13⟩ := q13
  refine X.opE (X.wG rfl rfl rfl) rfl (X.callE (Same_c _ hs13 hs11) Try.call22 rfl rfl) ?_
  rintro _ w12 ⟨rfl, hk12⟩
  have hk12' := hk12.size
  refine X.opw X.wN rfl (X.pickT (v := .bool _) rfl rfl) ?_
  refine X.opw X.wN rfl (X.move (v := .bool _) rfl) ?_
  refine X.forkO 42 rfl (fun h42 => ?_) (fun h42 => ?_)
  · refine X.opw (X.wG rfl rfl rfl) rfl (X.move rfl) ?_
    refine X.opw (X.wG rfl rfl rfl) rfl (X.move (v := .slice _ _ _) rfl) ?_
    refine X.opw (X.wG rfl rfl rfl) rfl (X.move (v := .slice _ _ _) rfl) ?_
    refine X.opE (X.wG rfl rfl rfl) rfl (X.callE ((RHeld_c false _ (((((hs1.keep (((hk2.trans hk3).trans hk4).trans hk5)).ext hx6 (by intros; (try simp only []); omega)).keep ((hk7.trans hk8).trans hk9)).ext hx10 (by intros; (try simp only []); omega)).keep (hk11.trans hk12)) (((((hs2.keep ((hk3.trans hk4).trans hk5)).ext hx6 (by intros; (try simp only []); omega)).keep ((hk7.trans hk8).trans hk9)).ext hx10 (by intros; (try simp only []); omega)).keep (hk11.trans hk12)) (by omega)).mono fun _ _ h => fresh_t h) Try.call30 rfl rfl) ?_
    rintro _ w14 ⟨A14, c14, rfl, hc14, hs14, hk14⟩
    have hk14' := hk14.size
    have q16 := (hM10.keep ((hk11.trans hk12).trans hk14)).slF KTh_flat 0 (fun _ _ => Nat.zero_le _)
    obtain ⟨A16, c16, rfl, hc16, hs16⟩ := q16
    refine X.opE (X.wG rfl rfl rfl) rfl (X.callE (Same_c _ hs16 hs14) Try.call22 rfl rfl) ?_
    rintro _ w15 ⟨rfl, hk15⟩
    have hk15' := hk15.size
    refine X.opw X.wN rfl (X.pickT (v := .bool _) rfl rfl) ?_
    refine X.opw X.wN rfl (X.move (v := .bool _) rfl) ?_
    refine X.forkO 49 rfl (fun h49 => ?_) (fun h49 => ?_)
    · refine X.opE (X.wG rfl rfl rfl) rfl (X.callE (alive_c _) Try.call14 rfl rfl) ?_
      rintro _ w17 ⟨rfl, hk17⟩
      have hk17' := hk17.size
      refine X.opw X.wN rfl (X.pickT (v := .bool _) rfl rfl) ?_
      refine X.opw X.wN rfl (X.assign (v := .bool _) rfl) ?_
      refine X.opsEnd ?_
      refine X.ret1 (v := (.bool _)) Try.func6 Try.results6 rfl ?_
      exact ⟨rfl, ((((((((((((((hk1.trans hk2).trans hk3).trans hk4).trans hk5).step hx6 (by intros; (try simp only [] at *); omega)).trans hk7).trans hk8).trans hk9).step hx10 (by intros; (try simp only [] at *); omega)).trans hk11).trans hk12).trans hk14).trans hk15).trans hk17)⟩
    · simp at h49
  · simp at h42
end Go.Proofs.Ytgfficbkajcdpaa
