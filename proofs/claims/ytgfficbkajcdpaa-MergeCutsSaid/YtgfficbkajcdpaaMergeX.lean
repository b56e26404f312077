/- The walk of the law MergeRows. -/
import Derived.Test.YtgfficbkajcdpaaMergeW
import Derived.Test.YtgfficbkajcdpaaMergeP
import Derived.Test.YtgfficbkajcdpaaProg
namespace Go.Proofs.Ytgfficbkajcdpaa
open Go Go.Proofs.Ytgfficbkajcdpaa.X
set_option linter.unusedVariables false
set_option linter.unusedSimpArgs false
section
variable {P : Program} {ρ : Operand → Value} {w : World} {dst : Option Tmp} {ty : TypeId} {pos : String} {aft : Array Edge} {g : Option (Nat × Bool)}
theorem minI {s x : Operand} {ts : Array TypeId} {k k' : IntKind} {a b : Int} (hs : ρ s = .int k a) (hx : ρ x = .int k' b) : Does P ⟨dst, .call ⟨.builtin .min, #[s, x], ts⟩, ty, pos, aft, g⟩ ρ w (.int k (if b < a then b else a)) w :=
  does_run rfl (by simp only [execOp, resolve, invoke, builtin, List.map_toArray, List.map_cons, List.map_nil, hs, hx]; simp [Builtin.min_, Builtin.min2])
end
-- f4 "pedigree/pedigreelaw09.MergeRows" params [24, 3] results [4] -> [(ResultVar.tmp 4)] nfree 0 ntmps 80 na
set_option maxHeartbeats 4000000 in
set_option maxRecDepth 100000 in
theorem MergeRows_c (w : World) (A1 : Option Addr) (n1 c1 : Nat) (l1 : List TH) (hc1 : n1 ≤ c1) (s1 : Sl (Kd.pair (KN .i8) KI) 0 w.heap.size w A1 n1 l1) (a : Int) (ha : -9223372036854775808 ≤ a ∧ a ≤ 9223372036854775807) :
    Ret Try.prog 4 #[.slice A1 n1 c1, .int .i64 a] w fun r w' => r = .bool true ∧ Keep w w' := by
  have hsx := sl_things s1
  have hlx := hsx.len
  obtain ⟨mq0, hmq0, hs30⟩ : ∃ mq0, mq0 = min n1 30 ∧ Sl KTh 0 w.heap.size w A1 mq0 (l1.take 30) := by
    by_cases h : n1 ≤ 30
    · exact ⟨n1, by omega, by rw [List.take_of_length_le (by omega)]; exact hsx⟩
    · exact ⟨30, by omega, hsx.take 30 (by omega)⟩
  refine X.enter Try.func4 rfl Try.ntmps4 rfl ?_
  refine X.seq ?_
  refine X.region ?_
  refine X.opE X.wN rfl (X.boxE rfl rfl) ?_
  rintro _ w1 ⟨rfl, hB1, hk1, hz1⟩
  refine X.opE X.wN rfl (X.boxE rfl rfl) ?_
  rintro _ w2 ⟨rfl, hB2, hk2, hz2⟩
  refine X.opw X.wN rfl (X.assign rfl) ?_
  refine X.opsEnd ?_
  refine X.seq ?_
  refine X.region ?_
  refine X.opw X.wN rfl (X.load1B Try.isAgg24 (hB1.keep hk2) rfl rfl) ?_
  refine X.opE X.wN rfl (X.callE (short_c _ (hsx.keep (hk1.trans hk2)) (by omega)) Try.call19 rfl rfl) ?_
  rintro _ w3 ⟨mq, rfl, hmc, hm3, hsq, hk3⟩
  have hk3' := hk3.size
  refine X.opE X.wN rfl (X.storeE Try.sizeOf24 (hB1.keep (hk2.trans hk3)) rfl rfl rfl rfl) ?_
  rintro _ w4 ⟨hB4, hx4, hz4⟩
  refine X.opsEnd ?_
  refine X.seq ?_
  refine X.region ?_
  refine X.opw X.wN rfl (X.load1B Try.isAgg24 hB4 rfl rfl) ?_
  refine X.opE X.wN rfl (X.callE (Of_c w.heap.size _ (hsq.ext hx4 (by intros; (try simp only []); omega)) (by omega) (by omega)) Try.call20 rfl rfl) ?_
  rintro _ w5 ⟨bm5, rfl, hC5, hk5⟩
  have hk5' := hk5.size
  refine X.opE X.wN rfl (X.callE (rest_b _ (CV.cur hC5) (by omega) (fun k hk => by (try simp only [] at *); omega) (take_lt _)) Try.call15 rfl rfl) ?_
  rintro _ w6 ⟨v6, rfl, hM6, hx6⟩
  have hx6' := hx6.size
  refine X.opw X.wN rfl (X.move rfl) ?_
  refine X.opw X.wN rfl (X.extr rfl rfl) ?_
  refine X.opw X.wN rfl (X.extr rfl rfl) ?_
  refine X.opw X.wN rfl (X.assign rfl) ?_
  refine X.opw X.wN rfl (X.assign (v := .bool _) rfl) ?_
  refine X.opsEnd ?_
  refine X.seq ?_
  refine X.region ?_
  refine X.opw X.wN rfl (X.load1B Try.isAgg24 ((hB4.keep hk5).ext hx6 (by intros; (try simp only []); omega)) rfl rfl) ?_
  refine X.opE X.wN rfl (X.callE (Of_c w.heap.size _ (((hsq.ext hx4 (by intros; (try simp only []); omega)).keep hk5).ext hx6 (by intros; (try simp only []); omega)) (by omega) (by omega)) Try.call20 rfl rfl) ?_
  rintro _ w7 ⟨bm7, rfl, hC7, hk7⟩
  have hk7' := hk7.size
  refine X.opE X.wN rfl (X.callE (Rest_c _ (CV.cur hC7) (by omega) (fun k hk => by (try simp only [] at *); omega) (by rw [List.length_take]; omega)) Try.call21 rfl rfl) ?_
  rintro v8 w8 ⟨hM8, hx8⟩
  have hx8' := hx8.size
  refine X.opw X.wN rfl (X.assign rfl) ?_
  refine X.opsEnd ?_
  refine X.seq ?_
  refine X.seq ?_
  refine X.region ?_
  refine X.opw X.wN rfl (X.move (v := .bool true) rfl) ?_
  refine X.opw X.wN rfl (X.not_ rfl) ?_
  refine X.opw X.wN rfl (X.move (v := .bool false) rfl) ?_
  refine X.opw (X.wG rfl rfl rfl) rfl (X.move rfl) ?_
  refine X.opw (X.wG rfl rfl rfl) rfl (X.load1B Try.isAgg24 ((((hB4.keep hk5).ext hx6 (by intros; (try simp only []); omega)).keep hk7).ext hx8 (by intros; (try simp only []); omega)) rfl rfl) ?_
  have q10 := ((hM6.keep hk7).ext hx8 (by intros; (try simp only []); omega) (by intros; (try simp only []); omega)).slF KTh_flat 0 (fun _ _ => Nat.zero_le _)
  obtain ⟨A10, c10, rfl, hc10, hs10⟩ := q10
  refine X.opE (X.wG rfl rfl rfl) rfl (X.callE (Same_c _ hs10 (((((hsq.ext hx4 (by intros; (try simp only []); omega)).keep hk5).ext hx6 (by intros; (try simp only []); omega)).keep hk7).ext hx8 (by intros; (try simp only []); omega))) Try.call22 rfl rfl) ?_
  rintro _ w9 ⟨rfl, hk9⟩
  have hk9' := hk9.size
  refine X.opw (X.wG rfl rfl rfl) rfl (X.not_ rfl) ?_
  refine X.opw X.wN rfl (X.pickF (v := .bool _) rfl rfl) ?_
  refine X.opw X.wN rfl (X.move (v := .bool _) rfl) ?_
  refine X.forkO 33 rfl (fun h33 => ?_) (fun h33 => ?_)
  · simp at h33
  · refine X.opw (X.wG rfl rfl rfl) rfl (X.move rfl) ?_
    refine X.opw (X.wG rfl rfl rfl) rfl (X.load1B Try.isAgg24 (((((hB4.keep hk5).ext hx6 (by intros; (try simp only []); omega)).keep hk7).ext hx8 (by intros; (try simp only []); omega)).keep hk9) rfl rfl) ?_
    have q12 := (hM8.keep hk9).slF KTh_flat 0 (fun _ _ => Nat.zero_le _)
    obtain ⟨A12, c12, rfl, hc12, hs12⟩ := q12
    refine X.opE (X.wG rfl rfl rfl) rfl (X.callE (Same_c _ hs12 ((((((hsq.ext hx4 (by intros; (try simp only []); omega)).keep hk5).ext hx6 (by intros; (try simp only []); omega)).keep hk7).ext hx8 (by intros; (try simp only []); omega)).keep hk9)) Try.call22 rfl rfl) ?_
    rintro _ w11 ⟨rfl, hk11⟩
    have hk11' := hk11.size
    refine X.opw (X.wG rfl rfl rfl) rfl (X.not_ rfl) ?_
    refine X.opw X.wN rfl (X.pickF (v := .bool _) rfl rfl) ?_
    refine X.opsEnd ?_
    refine X.condB rfl (fun hc => ?_) (fun hc => ?_)
    · simp at hc
    · refine X.skip ?_
      refine X.seq ?_
      refine X.region ?_
      refine X.opw X.wN rfl (X.load1B Try.isAgg24 (((((hB4.keep hk5).ext hx6 (by intros; (try simp only []); omega)).keep hk7).ext hx8 (by intros; (try simp only []); omega)).keep (hk9.trans hk11)) rfl rfl) ?_
      refine X.opE X.wN rfl (X.callE (Of_c w.heap.size _ ((((((hsq.ext hx4 (by intros; (try simp only []); omega)).keep hk5).ext hx6 (by intros; (try simp only []); omega)).keep hk7).ext hx8 (by intros; (try simp only []); omega)).keep (hk9.trans hk11)) (by omega) (by omega)) Try.call20 rfl rfl) ?_
      rintro _ w13 ⟨bm13, rfl, hC13, hk13⟩
      have hk13' := hk13.size
      refine X.opw X.wN rfl (X.assign rfl) ?_
      refine X.opsEnd ?_
      refine X.seq ?_
      refine X.region ?_
      refine X.opw X.wN rfl (X.move rfl) ?_
      refine X.opE X.wN rfl (X.callE (All_c _ _) Try.call23 rfl rfl) ?_
      rintro _ w14 ⟨rfl, hB14, hk14, hz14⟩
      refine X.opw X.wN rfl (X.assign rfl) ?_
      refine X.opsEnd ?_
      refine X.seq ?_
      refine X.seq ?_
      refine X.region ?_
      refine X.opw X.wN rfl (X.move rfl) ?_
      refine X.opw X.wN rfl (X.eqFn1 Try.underlying44 rfl rfl) ?_
      refine X.opsEnd ?_
      refine X.condF rfl ?_
      refine X.skip ?_
      refine X.seq ?_
      refine X.seq ?_
      refine X.region ?_
      refine X.opw X.wN rfl (X.load1B Try.isAgg3 (((((((hB2.keep hk3).ext hx4 (by intros; (try simp only []); omega)).keep hk5).ext hx6 (by intros; (try simp only []); omega)).keep hk7).ext hx8 (by intros; (try simp only []); omega)).keep (((hk9.trans hk11).trans hk13).trans hk14)) rfl rfl) ?_
      refine X.opP X.wN rfl rfl (X.lss rfl rfl) (fun h46 => ?_) (fun h46 => ?_)
      · refine X.opw X.wN rfl (X.move (v := .bool true) rfl) ?_
        refine X.opS rfl rfl rfl rfl rfl ?_
        refine X.opS rfl rfl rfl rfl rfl ?_
        refine X.opw X.wN rfl (X.pickT (v := .bool true) rfl rfl) ?_
        refine X.opsEnd ?_
        refine X.condT rfl ?_
        refine X.region ?_
        refine X.opE X.wN rfl (X.storeE Try.sizeOf3 (((((((hB2.keep hk3).ext hx4 (by intros; (try simp only []); omega)).keep hk5).ext hx6 (by intros; (try simp only []); omega)).keep hk7).ext hx8 (by intros; (try simp only []); omega)).keep (((hk9.trans hk11).trans hk13).trans hk14)) rfl rfl rfl rfl) ?_
        rintro _ w15 ⟨hB15, hx15, hz15⟩
        refine X.opsEnd ?_
        refine X.seq ?_
        refine X.region ?_
        refine X.opE X.wN rfl (X.allocE Try.zeroValue3 rfl) ?_
        rintro _ w16 ⟨rfl, hB16, hk16, hz16⟩
        refine X.opE X.wN rfl (X.allocE Try.zeroValue4 rfl) ?_
        rintro _ w17 ⟨rfl, hB17, hk17, hz17⟩
        refine X.opE X.wN rfl (X.storeE Try.sizeOf3 (hB16.keep hk17) rfl rfl rfl rfl) ?_
        rintro _ w18 ⟨hB18, hx18, hz18⟩
        refine X.opE X.wN rfl (X.storeE Try.sizeOf4 (hB17.ext hx18 (by intros; (try simp only []); omega)) rfl rfl rfl rfl) ?_
        rintro _ w19 ⟨hB19, hx19, hz19⟩
        refine X.opsEnd ?_
        refine X.seq ?_
        refine X.region ?_
        refine X.opw X.wN rfl (X.move rfl) ?_
        refine X.opw X.wN rfl (X.mkFunc rfl) ?_
        refine X.opE X.wN rfl ((YC.of_ret (args := [_]) (cap := [_]) (all1_c (.func (.func 24) #[] #[ptrV (w16.heap.size), ptrV (w15.heap.size), ptrV (w.heap.size), ptrV (w1.heap.size)]) _ (w13.heap.size) w.heap.size _ (fun k => k = w16.heap.size ∨ k = w15.heap.size) (fun ys w' => ∃ i : Nat, ys = (l1.take 30).drop i ∧ i ≤ mq ∧ i < 31 ∧ Blk w' (w16.heap.size) [.bool true] 4 ∧ Blk w' (w15.heap.size) [.int .i64 (i : Int)] 3 ∧ Blk w' (w.heap.size) [.slice A1 mq c1] 24 ∧ Blk w' (w1.heap.size) [.int .i64 ((31 : Nat) : Int)] 3 ∧ Sl KTh 0 w.heap.size w' A1 mq (l1.take 30)) (fun ys w' => ∃ i : Nat, ys = (l1.take 30).drop i ∧ i ≤ mq ∧ i = 31 ∧ Blk w' (w16.heap.size) [.bool true] 4 ∧ Blk w' (w15.heap.size) [.int .i64 (i : Int)] 3 ∧ Blk w' (w.heap.size) [.slice A1 mq c1] 24 ∧ Blk w' (w1.heap.size) [.int .i64 ((31 : Nat) : Int)] 3 ∧ Sl KTh 0 w.heap.size w' A1 mq (l1.take 30)) _ ((hB14.ext hx15 (by intros; (try simp only []); omega)).keep (((hk16.trans hk17).step hx18 (by intros; (try simp only [] at *); omega)).step hx19 (by intros; (try simp only [] at *); omega))) (CV.cur (((hC13.keep hk14).ext hx15 (by intro k hk hk2; refine ⟨?_, fun ht => ?_⟩ <;> ((try simp only [] at *); omega))).keep (((hk16.trans hk17).step hx18 (by intros; (try simp only [] at *); omega)).step hx19 (by intros; (try simp only [] at *); omega)))) (by omega) (fun k hk => by (try simp only [] at *); omega) (by (try simp only []); omega) (by (try simp only []); omega) (fun k hk => by (try simp only [] at *); omega) ⟨0, rfl, Nat.zero_le _, by omega, hB19, (hB18.ext hx19 (by intros; (try simp only []); omega)), (((((((hB4.keep hk5).ext hx6 (by intros; (try simp only []); omega)).keep hk7).ext hx8 (by intros; (try simp only []); omega)).keep (((hk9.trans hk11).trans hk13).trans hk14)).ext hx15 (by intros; (try simp only []); omega)).keep (((hk16.trans hk17).step hx18 (by intros; (try simp only [] at *); omega)).step hx19 (by intros; (try simp only [] at *); omega))), (hB15.keep (((hk16.trans hk17).step hx18 (by intros; (try simp only [] at *); omega)).step hx19 (by intros; (try simp only [] at *); omega))), ((((((((hsq.ext hx4 (by intros; (try simp only []); omega)).keep hk5).ext hx6 (by intros; (try simp only []); omega)).keep hk7).ext hx8 (by intros; (try simp only []); omega)).keep (((hk9.trans hk11).trans hk13).trans hk14)).ext hx15 (by intros; (try simp only []); omega)).keep (((hk16.trans hk17).step hx18 (by intros; (try simp only [] at *); omega)).step hx19 (by intros; (try simp only [] at *); omega)))⟩ (fun ys wu wv ⟨i, g1, g2, g3, g4, g5, g6, g7, g8⟩ x => ⟨i, g1, g2, g3, g4.ext x (by (try simp only []); omega), g5.ext x (by (try simp only []); omega), g6.ext x (by (try simp only []); omega), g7.ext x (by (try simp only []); omega), g8.ext x (by intros; (try simp only []); omega)⟩) (fun y ys wu ⟨i, g1, g2, g3, g4, g5, g6, g7, g8⟩ => by
      have hy := head_drop g1.symm
      have hyl := (List.getElem?_eq_some_iff.1 hy).1
      have hml := g8.len
      have g4l := g4.lt
      refine YC.of_ret (args := [_]) (cap := [_, _, _, _]) ((rows1_c y i 31 _ _ _ _ wu g4 g5 g6 g7 g8 hy (by omega) (by omega) (by omega)).mono ?_) Try.call24
      rintro r wv ⟨rfl, q1, q2, qx⟩
      have e : ys = (l1.take 30).drop (i + 1) := by have := congrArg List.tail g1; rw [List.tail_drop] at this; exact this
      refine ⟨_, rfl, qx, fun h => ⟨i + 1, e, by omega, of_decide_eq_true h, q1, q2, g6.ext qx (by (try simp only []); omega), g7.ext qx (by (try simp only []); omega), g8.ext qx (by intros; (try simp only []); omega)⟩, fun h => ⟨i + 1, e, by omega, by have := of_decide_eq_false h; omega, q1, q2, g6.ext qx (by (try simp only []); omega), g7.ext qx (by (try simp only []); omega), g8.ext qx (by intros; (try simp only []); omega)⟩⟩)) Try.call52) _ _ _ _ _ _ _ _ _ rfl rfl) ?_
        rintro _ w20 ⟨rfl, ⟨ysq, hCq, hor⟩, hx20⟩
        have hx20' := hx20.size
        obtain ⟨iq, giq, gi1, gi2, gB1, gB2, gB3, gB4, gSl⟩ : ∃ iq : Nat, ysq = (l1.take 30).drop iq ∧ iq ≤ mq ∧ (iq = mq ∧ iq < 31 ∨ iq = 31) ∧ Blk w20 (w16.heap.size) [.bool true] 4 ∧ Blk w20 (w15.heap.size) [.int .i64 (iq : Int)] 3 ∧ Blk w20 (w.heap.size) [.slice A1 mq c1] 24 ∧ Blk w20 (w1.heap.size) [.int .i64 ((31 : Nat) : Int)] 3 ∧ Sl KTh 0 w.heap.size w20 A1 mq (l1.take 30) := by
          rcases hor with ⟨h1, i, h2, h3, h4, h5⟩ | ⟨i, h1, h2, h3, h4⟩
          · refine ⟨i, by rw [h1]; exact h2, h3, .inl ⟨?_, h4⟩, h5⟩
            have := congrArg List.length h2
            rw [List.length_drop, hsq.len] at this
            simp at this; omega
          · exact ⟨i, h1, h2, .inr h3, h4⟩
        refine X.opsEnd ?_
        refine X.seq ?_
        refine X.seq ?_
        refine X.region ?_
        refine X.opw X.wN rfl (X.load1B Try.isAgg4 gB1 rfl rfl) ?_
        refine X.opw X.wN rfl (X.not_ rfl) ?_
        refine X.opw X.wN rfl (X.move (v := .bool false) rfl) ?_
        refine X.opw (X.wG rfl rfl rfl) rfl (X.load1B Try.isAgg3 gB2 rfl rfl) ?_
        refine X.opw (X.wG rfl rfl rfl) rfl (X.load1B Try.isAgg24 gB3 rfl rfl) ?_
        refine X.opw (X.wG rfl rfl rfl) rfl (X.lenSl Try.underlying24 rfl) ?_
        refine X.opw (X.wG rfl rfl rfl) rfl (X.load1B Try.isAgg3 gB4 rfl rfl) ?_
        refine X.opw (X.wG rfl rfl rfl) rfl (minI rfl rfl) ?_
        refine X.opP (X.wG rfl rfl rfl) rfl rfl (X.neI rfl rfl) (fun h62 => ?_) (fun h62 => ?_)
        · exact absurd (by split <;> omega) h62
        · refine X.opw X.wN rfl (X.pickF (v := .bool false) rfl rfl) ?_
          refine X.opsEnd ?_
          refine X.condF rfl ?_
          refine X.skip ?_
          refine X.seq ?_
          refine X.region ?_
          refine X.opw X.wN rfl (X.move rfl) ?_
          refine X.opE X.wN rfl (X.callE (rest_b _ hCq (by omega) (fun k hk => by (try simp only [] at *); omega) (by rw [giq, List.length_drop]; have := hsq.len; omega)) Try.call15 rfl rfl) ?_
          rintro _ w21 ⟨v21, rfl, hM21, hx21⟩
          have hx21' := hx21.size
          refine X.opw X.wN rfl (X.move rfl) ?_
          refine X.opw X.wN rfl (X.extr rfl rfl) ?_
          refine X.opw X.wN rfl (X.extr rfl rfl) ?_
          refine X.opw X.wN rfl (X.assign rfl) ?_
          refine X.opw X.wN rfl (X.assign (v := .bool _) rfl) ?_
          refine X.opsEnd ?_
          refine X.seq ?_
          refine X.region ?_
          refine X.opw X.wN rfl (X.move (v := .bool true) rfl) ?_
          refine X.opw X.wN rfl (X.move (v := .bool true) rfl) ?_
          refine X.opw (X.wG rfl rfl rfl) rfl (X.move rfl) ?_
          refine X.opw (X.wG rfl rfl rfl) rfl (X.load1B Try.isAgg24 (gB3.ext hx21 (by intros; (try simp only []); omega)) rfl rfl) ?_
          refine X.opw (X.wG rfl rfl rfl) rfl (X.load1B Try.isAgg3 (gB2.ext hx21 (by intros; (try simp only []); omega)) rfl rfl) ?_
          refine X.opw (X.wG rfl rfl rfl) rfl (X.cutL Try.underlying24 Try.sizeOf29 rfl rfl (by omega)) ?_
          have q23 := hM21.slF KTh_flat 0 (fun _ _ => Nat.zero_le _)
          obtain ⟨A23, c23, rfl, hc23, hs23⟩ := q23
          refine X.opE (X.wG rfl rfl rfl) rfl (X.callE (Same_c _ hs23 ((gSl.drop iq c1 (by omega) (by omega)).ext hx21 (by intros; (try simp only []); omega))) Try.call22 rfl rfl) ?_
          rintro _ w22 ⟨rfl, hk22⟩
          have hk22' := hk22.size
          refine X.opw X.wN rfl (X.pickT (v := .bool _) rfl rfl) ?_
          refine X.opw X.wN rfl (X.move (v := .bool _) rfl) ?_
          refine X.forkO 77 rfl (fun h77 => ?_) (fun h77 => ?_)
          · refine X.opE (X.wG rfl rfl rfl) rfl (X.callE (alive_c _) Try.call14 rfl rfl) ?_
            rintro _ w24 ⟨rfl, hk24⟩
            have hk24' := hk24.size
            refine X.opw X.wN rfl (X.pickT (v := .bool _) rfl rfl) ?_
            refine X.opw X.wN rfl (X.assign (v := .bool _) rfl) ?_
            refine X.opsEnd ?_
            refine X.ret1 (v := (.bool _)) Try.func4 Try.results4 rfl ?_
            exact ⟨rfl, ((((((((((((((((((((hk1.trans hk2).trans hk3).step hx4 (by intros; (try simp only [] at *); omega)).trans hk5).step hx6 (by intros; (try simp only [] at *); omega)).trans hk7).step hx8 (by intros; (try simp only [] at *); omega)).trans hk9).trans hk11).trans hk13).trans hk14).step hx15 (by intros; (try simp only [] at *); omega)).trans hk16).trans hk17).step hx18 (by intros; (try simp only [] at *); omega)).step hx19 (by intros; (try simp only [] at *); omega)).step hx20 (by intros; (try simp only [] at *); omega)).step hx21 (by intros; (try simp only [] at *); omega)).trans hk22).trans hk24)⟩
          · rw [giq] at h77; simp at h77
      · refine X.opw X.wN rfl (X.move (v := .bool false) rfl) ?_
        refine X.opw (X.wG rfl rfl rfl) rfl (X.load1B Try.isAgg3 (((((((hB2.keep hk3).ext hx4 (by intros; (try simp only []); omega)).keep hk5).ext hx6 (by intros; (try simp only []); omega)).keep hk7).ext hx8 (by intros; (try simp only []); omega)).keep (((hk9.trans hk11).trans hk13).trans hk14)) rfl rfl) ?_
        refine X.opP (X.wG rfl rfl rfl) rfl rfl (X.gtr rfl rfl) (fun h49 => ?_) (fun h49 => ?_)
        · refine X.opw X.wN rfl (X.pickF (v := .bool true) rfl rfl) ?_
          refine X.opsEnd ?_
          refine X.condT rfl ?_
          refine X.region ?_
          refine X.opE X.wN rfl (X.storeE Try.sizeOf3 (((((((hB2.keep hk3).ext hx4 (by intros; (try simp only []); omega)).keep hk5).ext hx6 (by intros; (try simp only []); omega)).keep hk7).ext hx8 (by intros; (try simp only []); omega)).keep (((hk9.trans hk11).trans hk13).trans hk14)) rfl rfl rfl rfl) ?_
          rintro _ w25 ⟨hB25, hx25, hz25⟩
          refine X.opsEnd ?_
          refine X.seq ?_
          refine X.region ?_
          refine X.opE X.wN rfl (X.allocE Try.zeroValue3 rfl) ?_
          rintro _ w26 ⟨rfl, hB26, hk26, hz26⟩
          refine X.opE X.wN rfl (X.allocE Try.zeroValue4 rfl) ?_
          rintro _ w27 ⟨rfl, hB27, hk27, hz27⟩
          refine X.opE X.wN rfl (X.storeE Try.sizeOf3 (hB26.keep hk27) rfl rfl rfl rfl) ?_
          rintro _ w28 ⟨hB28, hx28, hz28⟩
          refine X.opE X.wN rfl (X.storeE Try.sizeOf4 (hB27.ext hx28 (by intros; (try simp only []); omega)) rfl rfl rfl rfl) ?_
          rintro _ w29 ⟨hB29, hx29, hz29⟩
          refine X.opsEnd ?_
          refine X.seq ?_
          refine X.region ?_
          refine X.opw X.wN rfl (X.move rfl) ?_
          refine X.opw X.wN rfl (X.mkFunc rfl) ?_
          refine X.opE X.wN rfl ((YC.of_ret (args := [_]) (cap := [_]) (all1_c (.func (.func 24) #[] #[ptrV (w26.heap.size), ptrV (w25.heap.size), ptrV (w.heap.size), ptrV (w1.heap.size)]) _ (w13.heap.size) w.heap.size _ (fun k => k = w26.heap.size ∨ k = w25.heap.size) (fun ys w' => ∃ i : Nat, ys = (l1.take 30).drop i ∧ i ≤ mq ∧ i < 31 ∧ Blk w' (w26.heap.size) [.bool true] 4 ∧ Blk w' (w25.heap.size) [.int .i64 (i : Int)] 3 ∧ Blk w' (w.heap.size) [.slice A1 mq c1] 24 ∧ Blk w' (w1.heap.size) [.int .i64 ((31 : Nat) : Int)] 3 ∧ Sl KTh 0 w.heap.size w' A1 mq (l1.take 30)) (fun ys w' => ∃ i : Nat, ys = (l1.take 30).drop i ∧ i ≤ mq ∧ i = 31 ∧ Blk w' (w26.heap.size) [.bool true] 4 ∧ Blk w' (w25.heap.size) [.int .i64 (i : Int)] 3 ∧ Blk w' (w.heap.size) [.slice A1 mq c1] 24 ∧ Blk w' (w1.heap.size) [.int .i64 ((31 : Nat) : Int)] 3 ∧ Sl KTh 0 w.heap.size w' A1 mq (l1.take 30)) _ ((hB14.ext hx25 (by intros; (try simp only []); omega)).keep (((hk26.trans hk27).step hx28 (by intros; (try simp only [] at *); omega)).step hx29 (by intros; (try simp only [] at *); omega))) (CV.cur (((hC13.keep hk14).ext hx25 (by intro k hk hk2; refine ⟨?_, fun ht => ?_⟩ <;> ((try simp only [] at *); omega))).keep (((hk26.trans hk27).step hx28 (by intros; (try simp only [] at *); omega)).step hx29 (by intros; (try simp only [] at *); omega)))) (by omega) (fun k hk => by (try simp only [] at *); omega) (by (try simp only []); omega) (by (try simp only []); omega) (fun k hk => by (try simp only [] at *); omega) ⟨0, rfl, Nat.zero_le _, by omega, hB29, (hB28.ext hx29 (by intros; (try simp only []); omega)), (((((((hB4.keep hk5).ext hx6 (by intros; (try simp only []); omega)).keep hk7).ext hx8 (by intros; (try simp only []); omega)).keep (((hk9.trans hk11).trans hk13).trans hk14)).ext hx25 (by intros; (try simp only []); omega)).keep (((hk26.trans hk27).step hx28 (by intros; (try simp only [] at *); omega)).step hx29 (by intros; (try simp only [] at *); omega))), (hB25.keep (((hk26.trans hk27).step hx28 (by intros; (try simp only [] at *); omega)).step hx29 (by intros; (try simp only [] at *); omega))), ((((((((hsq.ext hx4 (by intros; (try simp only []); omega)).keep hk5).ext hx6 (by intros; (try simp only []); omega)).keep hk7).ext hx8 (by intros; (try simp only []); omega)).keep (((hk9.trans hk11).trans hk13).trans hk14)).ext hx25 (by intros; (try simp only []); omega)).keep (((hk26.trans hk27).step hx28 (by intros; (try simp only [] at *); omega)).step hx29 (by intros; (try simp only [] at *); omega)))⟩ (fun ys wu wv ⟨i, g1, g2, g3, g4, g5, g6, g7, g8⟩ x => ⟨i, g1, g2, g3, g4.ext x (by (try simp only []); omega), g5.ext x (by (try simp only []); omega), g6.ext x (by (try simp only []); omega), g7.ext x (by (try simp only []); omega), g8.ext x (by intros; (try simp only []); omega)⟩) (fun y ys wu ⟨i, g1, g2, g3, g4, g5, g6, g7, g8⟩ => by
      have hy := head_drop g1.symm
      have hyl := (List.getElem?_eq_some_iff.1 hy).1
      have hml := g8.len
      have g4l := g4.lt
      refine YC.of_ret (args := [_]) (cap := [_, _, _, _]) ((rows1_c y i 31 _ _ _ _ wu g4 g5 g6 g7 g8 hy (by omega) (by omega) (by omega)).mono ?_) Try.call24
      rintro r wv ⟨rfl, q1, q2, qx⟩
      have e : ys = (l1.take 30).drop (i + 1) := by have := congrArg List.tail g1; rw [List.tail_drop] at this; exact this
      refine ⟨_, rfl, qx, fun h => ⟨i + 1, e, by omega, of_decide_eq_true h, q1, q2, g6.ext qx (by (try simp only []); omega), g7.ext qx (by (try simp only []); omega), g8.ext qx (by intros; (try simp only []); omega)⟩, fun h => ⟨i + 1, e, by omega, by have := of_decide_eq_false h; omega, q1, q2, g6.ext qx (by (try simp only []); omega), g7.ext qx (by (try simp only []); omega), g8.ext qx (by intros; (try simp only []); omega)⟩⟩)) Try.call52) _ _ _ _ _ _ _ _ _ rfl rfl) ?_
          rintro _ w30 ⟨rfl, ⟨ysq, hCq, hor⟩, hx30⟩
          have hx30' := hx30.size
          obtain ⟨iq, giq, gi1, gi2, gB1, gB2, gB3, gB4, gSl⟩ : ∃ iq : Nat, ysq = (l1.take 30).drop iq ∧ iq ≤ mq ∧ (iq = mq ∧ iq < 31 ∨ iq = 31) ∧ Blk w30 (w26.heap.size) [.bool true] 4 ∧ Blk w30 (w25.heap.size) [.int .i64 (iq : Int)] 3 ∧ Blk w30 (w.heap.size) [.slice A1 mq c1] 24 ∧ Blk w30 (w1.heap.size) [.int .i64 ((31 : Nat) : Int)] 3 ∧ Sl KTh 0 w.heap.size w30 A1 mq (l1.take 30) := by
            rcases hor with ⟨h1, i, h2, h3, h4, h5⟩ | ⟨i, h1, h2, h3, h4⟩
            · refine ⟨i, by rw [h1]; exact h2, h3, .inl ⟨?_, h4⟩, h5⟩
              have := congrArg List.length h2
              rw [List.length_drop, hsq.len] at this
              simp at this; omega
            · exact ⟨i, h1, h2, .inr h3, h4⟩
          refine X.opsEnd ?_
          refine X.seq ?_
          refine X.seq ?_
          refine X.region ?_
          refine X.opw X.wN rfl (X.load1B Try.isAgg4 gB1 rfl rfl) ?_
          refine X.opw X.wN rfl (X.not_ rfl) ?_
          refine X.opw X.wN rfl (X.move (v := .bool false) rfl) ?_
          refine X.opw (X.wG rfl rfl rfl) rfl (X.load1B Try.isAgg3 gB2 rfl rfl) ?_
          refine X.opw (X.wG rfl rfl rfl) rfl (X.load1B Try.isAgg24 gB3 rfl rfl) ?_
          refine X.opw (X.wG rfl rfl rfl) rfl (X.lenSl Try.underlying24 rfl) ?_
          refine X.opw (X.wG rfl rfl rfl) rfl (X.load1B Try.isAgg3 gB4 rfl rfl) ?_
          refine X.opw (X.wG rfl rfl rfl) rfl (minI rfl rfl) ?_
          refine X.opP (X.wG rfl rfl rfl) rfl rfl (X.neI rfl rfl) (fun h62 => ?_) (fun h62 => ?_)
          · exact absurd (by split <;> omega) h62
          · refine X.opw X.wN rfl (X.pickF (v := .bool false) rfl rfl) ?_
            refine X.opsEnd ?_
            refine X.condF rfl ?_
            refine X.skip ?_
            refine X.seq ?_
            refine X.region ?_
            refine X.opw X.wN rfl (X.move rfl) ?_
            refine X.opE X.wN rfl (X.callE (rest_b _ hCq (by omega) (fun k hk => by (try simp only [] at *); omega) (by rw [giq, List.length_drop]; have := hsq.len; omega)) Try.call15 rfl rfl) ?_
            rintro _ w31 ⟨v31, rfl, hM31, hx31⟩
            have hx31' := hx31.size
            refine X.opw X.wN rfl (X.move rfl) ?_
            refine X.opw X.wN rfl (X.extr rfl rfl) ?_
            refine X.opw X.wN rfl (X.extr rfl rfl) ?_
            refine X.opw X.wN rfl (X.assign rfl) ?_
            refine X.opw X.wN rfl (X.assign (v := .bool _) rfl) ?_
            refine X.opsEnd ?_
            refine X.seq ?_
            refine X.region ?_
            refine X.opw X.wN rfl (X.move (v := .bool true) rfl) ?_
            refine X.opw X.wN rfl (X.move (v := .bool true) rfl) ?_
            refine X.opw (X.wG rfl rfl rfl) rfl (X.move rfl) ?_
            refine X.opw (X.wG rfl rfl rfl) rfl (X.load1B Try.isAgg24 (gB3.ext hx31 (by intros; (try simp only []); omega)) rfl rfl) ?_
            refine X.opw (X.wG rfl rfl rfl) rfl (X.load1B Try.isAgg3 (gB2.ext hx31 (by intros; (try simp only []); omega)) rfl rfl) ?_
            refine X.opw (X.wG rfl rfl rfl) rfl (X.cutL Try.underlying24 Try.sizeOf29 rfl rfl (by omega)) ?_
            have q33 := hM31.slF KTh_flat 0 (fun _ _ => Nat.zero_le _)
            obtain ⟨A33, c33, rfl, hc33, hs33⟩ := q33
            refine X.opE (X.wG rfl rfl rfl) rfl (X.callE (Same_c _ hs33 ((gSl.drop iq c1 (by omega) (by omega)).ext hx31 (by intros; (try simp only []); omega))) Try.call22 rfl rfl) ?_
            rintro _ w32 ⟨rfl, hk32⟩
            have hk32' := hk32.size
            refine X.opw X.wN rfl (X.pickT (v := .bool _) rfl rfl) ?_
            refine X.opw X.wN rfl (X.move (v := .bool _) rfl) ?_
            refine X.forkO 77 rfl (fun h77 => ?_) (fun h77 => ?_)
            · refine X.opE (X.wG rfl rfl rfl) rfl (X.callE (alive_c _) Try.call14 rfl rfl) ?_
              rintro _ w34 ⟨rfl, hk34⟩
              have hk34' := hk34.size
              refine X.opw X.wN rfl (X.pickT (v := .bool _) rfl rfl) ?_
              refine X.opw X.wN rfl (X.assign (v := .bool _) rfl) ?_
              refine X.opsEnd ?_
              refine X.ret1 (v := (.bool _)) Try.func4 Try.results4 rfl ?_
              exact ⟨rfl, ((((((((((((((((((((hk1.trans hk2).trans hk3).step hx4 (by intros; (try simp only [] at *); omega)).trans hk5).step hx6 (by intros; (try simp only [] at *); omega)).trans hk7).step hx8 (by intros; (try simp only [] at *); omega)).trans hk9).trans hk11).trans hk13).trans hk14).step hx25 (by intros; (try simp only [] at *); omega)).trans hk26).trans hk27).step hx28 (by intros; (try simp only [] at *); omega)).step hx29 (by intros; (try simp only [] at *); omega)).step hx30 (by intros; (try simp only [] at *); omega)).step hx31 (by intros; (try simp only [] at *); omega)).trans hk32).trans hk34)⟩
            · rw [giq] at h77; simp at h77
        · obtain ⟨most, rfl⟩ : ∃ k : Nat, a = (k : Int) := ⟨a.toNat, by omega⟩
          refine X.opw X.wN rfl (X.pickF (v := .bool false) rfl rfl) ?_
          refine X.opsEnd ?_
          refine X.condF rfl ?_
          refine X.skip ?_
          refine X.seq ?_
          refine X.region ?_
          refine X.opE X.wN rfl (X.allocE Try.zeroValue3 rfl) ?_
          rintro _ w35 ⟨rfl, hB35, hk35, hz35⟩
          refine X.opE X.wN rfl (X.allocE Try.zeroValue4 rfl) ?_
          rintro _ w36 ⟨rfl, hB36, hk36, hz36⟩
          refine X.opE X.wN rfl (X.storeE Try.sizeOf3 (hB35.keep hk36) rfl rfl rfl rfl) ?_
          rintro _ w37 ⟨hB37, hx37, hz37⟩
          refine X.opE X.wN rfl (X.storeE Try.sizeOf4 (hB36.ext hx37 (by intros; (try simp only []); omega)) rfl rfl rfl rfl) ?_
          rintro _ w38 ⟨hB38, hx38, hz38⟩
          refine X.opsEnd ?_
          refine X.seq ?_
          refine X.region ?_
          refine X.opw X.wN rfl (X.move rfl) ?_
          refine X.opw X.wN rfl (X.mkFunc rfl) ?_
          refine X.opE X.wN rfl ((YC.of_ret (args := [_]) (cap := [_]) (all1_c (.func (.func 24) #[] #[ptrV (w35.heap.size), ptrV (w14.heap.size), ptrV (w.heap.size), ptrV (w1.heap.size)]) _ (w13.heap.size) w.heap.size _ (fun k => k = w35.heap.size ∨ k = w14.heap.size) (fun ys w' => ∃ i : Nat, ys = (l1.take 30).drop i ∧ i ≤ mq ∧ i < most ∧ Blk w' (w35.heap.size) [.bool true] 4 ∧ Blk w' (w14.heap.size) [.int .i64 (i : Int)] 3 ∧ Blk w' (w.heap.size) [.slice A1 mq c1] 24 ∧ Blk w' (w1.heap.size) [.int .i64 ((most : Nat) : Int)] 3 ∧ Sl KTh 0 w.heap.size w' A1 mq (l1.take 30)) (fun ys w' => ∃ i : Nat, ys = (l1.take 30).drop i ∧ i ≤ mq ∧ i = most ∧ Blk w' (w35.heap.size) [.bool true] 4 ∧ Blk w' (w14.heap.size) [.int .i64 (i : Int)] 3 ∧ Blk w' (w.heap.size) [.slice A1 mq c1] 24 ∧ Blk w' (w1.heap.size) [.int .i64 ((most : Nat) : Int)] 3 ∧ Sl KTh 0 w.heap.size w' A1 mq (l1.take 30)) _ (hB14.keep (((hk35.trans hk36).step hx37 (by intros; (try simp only [] at *); omega)).step hx38 (by intros; (try simp only [] at *); omega))) (CV.cur (hC13.keep ((((hk14.trans hk35).trans hk36).step hx37 (by intros; (try simp only [] at *); omega)).step hx38 (by intros; (try simp only [] at *); omega)))) (by omega) (fun k hk => by (try simp only [] at *); omega) (by (try simp only []); omega) (by (try simp only []); omega) (fun k hk => by (try simp only [] at *); omega) ⟨0, rfl, Nat.zero_le _, by omega, hB38, (hB37.ext hx38 (by intros; (try simp only []); omega)), (((((hB4.keep hk5).ext hx6 (by intros; (try simp only []); omega)).keep hk7).ext hx8 (by intros; (try simp only []); omega)).keep (((((((hk9.trans hk11).trans hk13).trans hk14).trans hk35).trans hk36).step hx37 (by intros; (try simp only [] at *); omega)).step hx38 (by intros; (try simp only [] at *); omega))), (((((((hB2.keep hk3).ext hx4 (by intros; (try simp only []); omega)).keep hk5).ext hx6 (by intros; (try simp only []); omega)).keep hk7).ext hx8 (by intros; (try simp only []); omega)).keep (((((((hk9.trans hk11).trans hk13).trans hk14).trans hk35).trans hk36).step hx37 (by intros; (try simp only [] at *); omega)).step hx38 (by intros; (try simp only [] at *); omega))), ((((((hsq.ext hx4 (by intros; (try simp only []); omega)).keep hk5).ext hx6 (by intros; (try simp only []); omega)).keep hk7).ext hx8 (by intros; (try simp only []); omega)).keep (((((((hk9.trans hk11).trans hk13).trans hk14).trans hk35).trans hk36).step hx37 (by intros; (try simp only [] at *); omega)).step hx38 (by intros; (try simp only [] at *); omega)))⟩ (fun ys wu wv ⟨i, g1, g2, g3, g4, g5, g6, g7, g8⟩ x => ⟨i, g1, g2, g3, g4.ext x (by (try simp only []); omega), g5.ext x (by (try simp only []); omega), g6.ext x (by (try simp only []); omega), g7.ext x (by (try simp only []); omega), g8.ext x (by intros; (try simp only []); omega)⟩) (fun y ys wu ⟨i, g1, g2, g3, g4, g5, g6, g7, g8⟩ => by
      have hy := head_drop g1.symm
      have hyl := (List.getElem?_eq_some_iff.1 hy).1
      have hml := g8.len
      have g4l := g4.lt
      refine YC.of_ret (args := [_]) (cap := [_, _, _, _]) ((rows1_c y i most _ _ _ _ wu g4 g5 g6 g7 g8 hy (by omega) (by omega) (by omega)).mono ?_) Try.call24
      rintro r wv ⟨rfl, q1, q2, qx⟩
      have e : ys = (l1.take 30).drop (i + 1) := by have := congrArg List.tail g1; rw [List.tail_drop] at this; exact this
      refine ⟨_, rfl, qx, fun h => ⟨i + 1, e, by omega, of_decide_eq_true h, q1, q2, g6.ext qx (by (try simp only []); omega), g7.ext qx (by (try simp only []); omega), g8.ext qx (by intros; (try simp only []); omega)⟩, fun h => ⟨i + 1, e, by omega, by have := of_decide_eq_false h; omega, q1, q2, g6.ext qx (by (try simp only []); omega), g7.ext qx (by (try simp only []); omega), g8.ext qx (by intros; (try simp only []); omega)⟩⟩)) Try.call52) _ _ _ _ _ _ _ _ _ rfl rfl) ?_
          rintro _ w39 ⟨rfl, ⟨ysq, hCq, hor⟩, hx39⟩
          have hx39' := hx39.size
          obtain ⟨iq, giq, gi1, gi2, gB1, gB2, gB3, gB4, gSl⟩ : ∃ iq : Nat, ysq = (l1.take 30).drop iq ∧ iq ≤ mq ∧ (iq = mq ∧ iq < most ∨ iq = most) ∧ Blk w39 (w35.heap.size) [.bool true] 4 ∧ Blk w39 (w14.heap.size) [.int .i64 (iq : Int)] 3 ∧ Blk w39 (w.heap.size) [.slice A1 mq c1] 24 ∧ Blk w39 (w1.heap.size) [.int .i64 ((most : Nat) : Int)] 3 ∧ Sl KTh 0 w.heap.size w39 A1 mq (l1.take 30) := by
            rcases hor with ⟨h1, i, h2, h3, h4, h5⟩ | ⟨i, h1, h2, h3, h4⟩
            · refine ⟨i, by rw [h1]; exact h2, h3, .inl ⟨?_, h4⟩, h5⟩
              have := congrArg List.length h2
              rw [List.length_drop, hsq.len] at this
              simp at this; omega
            · exact ⟨i, h1, h2, .inr h3, h4⟩
          refine X.opsEnd ?_
          refine X.seq ?_
          refine X.seq ?_
          refine X.region ?_
          refine X.opw X.wN rfl (X.load1B Try.isAgg4 gB1 rfl rfl) ?_
          refine X.opw X.wN rfl (X.not_ rfl) ?_
          refine X.opw X.wN rfl (X.move (v := .bool false) rfl) ?_
          refine X.opw (X.wG rfl rfl rfl) rfl (X.load1B Try.isAgg3 gB2 rfl rfl) ?_
          refine X.opw (X.wG rfl rfl rfl) rfl (X.load1B Try.isAgg24 gB3 rfl rfl) ?_
          refine X.opw (X.wG rfl rfl rfl) rfl (X.lenSl Try.underlying24 rfl) ?_
          refine X.opw (X.wG rfl rfl rfl) rfl (X.load1B Try.isAgg3 gB4 rfl rfl) ?_
          refine X.opw (X.wG rfl rfl rfl) rfl (minI rfl rfl) ?_
          refine X.opP (X.wG rfl rfl rfl) rfl rfl (X.neI rfl rfl) (fun h62 => ?_) (fun h62 => ?_)
          · exact absurd (by split <;> omega) h62
          · refine X.opw X.wN rfl (X.pickF (v := .bool false) rfl rfl) ?_
            refine X.opsEnd ?_
            refine X.condF rfl ?_
            refine X.skip ?_
            refine X.seq ?_
            refine X.region ?_
            refine X.opw X.wN rfl (X.move rfl) ?_
            refine X.opE X.wN rfl (X.callE (rest_b _ hCq (by omega) (fun k hk => by (try simp only [] at *); omega) (by rw [giq, List.length_drop]; have := hsq.len; omega)) Try.call15 rfl rfl) ?_
            rintro _ w40 ⟨v40, rfl, hM40, hx40⟩
            have hx40' := hx40.size
            refine X.opw X.wN rfl (X.move rfl) ?_
            refine X.opw X.wN rfl (X.extr rfl rfl) ?_
            refine X.opw X.wN rfl (X.extr rfl rfl) ?_
            refine X.opw X.wN rfl (X.assign rfl) ?_
            refine X.opw X.wN rfl (X.assign (v := .bool _) rfl) ?_
            refine X.opsEnd ?_
            refine X.seq ?_
            refine X.region ?_
            refine X.opw X.wN rfl (X.move (v := .bool true) rfl) ?_
            refine X.opw X.wN rfl (X.move (v := .bool true) rfl) ?_
            refine X.opw (X.wG rfl rfl rfl) rfl (X.move rfl) ?_
            refine X.opw (X.wG rfl rfl rfl) rfl (X.load1B Try.isAgg24 (gB3.ext hx40 (by intros; (try simp only []); omega)) rfl rfl) ?_
            refine X.opw (X.wG rfl rfl rfl) rfl (X.load1B Try.isAgg3 (gB2.ext hx40 (by intros; (try simp only []); omega)) rfl rfl) ?_
            refine X.opw (X.wG rfl rfl rfl) rfl (X.cutL Try.underlying24 Try.sizeOf29 rfl rfl (by omega)) ?_
            have q42 := hM40.slF KTh_flat 0 (fun _ _ => Nat.zero_le _)
            obtain ⟨A42, c42, rfl, hc42, hs42⟩ := q42
            refine X.opE (X.wG rfl rfl rfl) rfl (X.callE (Same_c _ hs42 ((gSl.drop iq c1 (by omega) (by omega)).ext hx40 (by intros; (try simp only []); omega))) Try.call22 rfl rfl) ?_
            rintro _ w41 ⟨rfl, hk41⟩
            have hk41' := hk41.size
            refine X.opw X.wN rfl (X.pickT (v := .bool _) rfl rfl) ?_
            refine X.opw X.wN rfl (X.move (v := .bool _) rfl) ?_
            refine X.forkO 77 rfl (fun h77 => ?_) (fun h77 => ?_)
            · refine X.opE (X.wG rfl rfl rfl) rfl (X.callE (alive_c _) Try.call14 rfl rfl) ?_
              rintro _ w43 ⟨rfl, hk43⟩
              have hk43' := hk43.size
              refine X.opw X.wN rfl (X.pickT (v := .bool _) rfl rfl) ?_
              refine X.opw X.wN rfl (X.assign (v := .bool _) rfl) ?_
              refine X.opsEnd ?_
              refine X.ret1 (v := (.bool _)) Try.func4 Try.results4 rfl ?_
              exact ⟨rfl, (((((((((((((((((((hk1.trans hk2).trans hk3).step hx4 (by intros; (try simp only [] at *); omega)).trans hk5).step hx6 (by intros; (try simp only [] at *); omega)).trans hk7).step hx8 (by intros; (try simp only [] at *); omega)).trans hk9).trans hk11).trans hk13).trans hk14).trans hk35).trans hk36).step hx37 (by intros; (try simp only [] at *); omega)).step hx38 (by intros; (try simp only [] at *); omega)).step hx39 (by intros; (try simp only [] at *); omega)).step hx40 (by intros; (try simp only [] at *); omega)).trans hk41).trans hk43)⟩
            · rw [giq] at h77; simp at h77
end Go.Proofs.Ytgfficbkajcdpaa
