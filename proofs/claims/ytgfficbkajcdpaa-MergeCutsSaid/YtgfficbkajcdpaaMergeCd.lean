/- The walk of the law MergeCuts. -/
import Derived.Test.YtgfficbkajcdpaaMergeCc
import Derived.Test.YtgfficbkajcdpaaProg
namespace Go.Proofs.Ytgfficbkajcdpaa
open Go Go.Proofs.Ytgfficbkajcdpaa.X
set_option linter.unusedVariables false
set_option linter.unusedSimpArgs false
section
variable {P : Program} {ρ : Operand → Value} {w : World} {dst : Option Tmp} {ty : TypeId} {pos : String} {aft : Array Edge} {g : Option (Nat × Bool)}
theorem maxI {s x : Operand} {ts : Array TypeId} {k k' : IntKind} {a b c : Int} (hs : ρ s = .int k a) (hx : ρ x = .int k' b) (hc : (if b > a then b else a) = c) : Does P ⟨dst, .call ⟨.builtin .max, #[s, x], ts⟩, ty, pos, aft, g⟩ ρ w (.int k c) w :=
  does_run rfl (by subst hc; simp only [execOp, resolve, invoke, builtin, List.map_toArray, List.map_cons, List.map_nil, hs, hx]; simp [Builtin.max_, Builtin.max2])
end
theorem rest_bQ {Q : World → Prop} {B : Nat} {T : Nat → Prop} {p : Value} {xs : List TH} (w : World) (h : CurQ Try.prog evT (0, 0) NX B T p xs w Q) (hB : B ≤ w.heap.size) (hTb : ∀ k, T k → k < w.heap.size) (hxl : xs.length < 2000) : Ret Try.prog 15 #[.iface 84 p] w fun r w' => ∃ v, r = .tuple #[v, .bool true] ∧ Mine KTh 29 (fun k => w.heap.size ≤ k ∧ k < w'.heap.size) 0 0 w' v xs ∧ Ext T w w' ∧ Q w' :=
  (rest_cQ w h hB hTb hxl).mono fun r w' ⟨v, h1, h2, h3, h4⟩ => ⟨v, h1, h2.mono fun k hk hs => ⟨hs, hk⟩, h3, h4⟩
-- f8 "pedigree/pedigreelaw09.MergeCuts" params [24, 3, 27] results [4] -> [(ResultVar.tmp 6)] nfree 0 ntmps 1
set_option maxHeartbeats 4000000 in
set_option maxRecDepth 100000 in
theorem MergeCuts_c (w : World) (A1 : Option Addr) (n1 c1 : Nat) (l1 : List TH) (hc1 : n1 ≤ c1) (s1 : Sl (Kd.pair (KN .i8) KI) 0 w.heap.size w A1 n1 l1) (a1 : Int) (ha1 : -9223372036854775808 ≤ a1 ∧ a1 ≤ 9223372036854775807) (a2 : Int) (ha2 : (Lit.int .i8 a2).wf = true) :
    Ret Try.prog 8 #[.slice A1 n1 c1, .int .i64 a1, .int .i8 a2] w fun r w' => r = .bool true ∧ Keep w w' := by
  have hsx := sl_things s1
  refine X.enter Try.func8 rfl Try.ntmps8 rfl ?_
  refine X.seq ?_
  refine X.region ?_
  refine X.opE X.wN rfl (X.boxE rfl rfl) ?_
  rintro _ w1 ⟨rfl, hB1, hk1, hz1⟩
  refine X.opw X.wN rfl (X.assign rfl) ?_
  refine X.opsEnd ?_
  refine X.seq ?_
  refine X.region ?_
  refine X.opw X.wN rfl (X.move (v := .slice _ _ _) rfl) ?_
  refine X.opE X.wN rfl (X.callE (short_c _ (hsx.keep hk1) (by omega)) Try.call19 rfl rfl) ?_
  rintro _ w2 ⟨mq, rfl, hmc, hm3, hsq, hk2⟩
  have hk2' := hk2.size
  refine X.opw X.wN rfl (X.assign (v := .slice _ _ _) rfl) ?_
  refine X.opsEnd ?_
  refine X.seq ?_
  refine X.region ?_
  refine X.opw X.wN rfl (X.mkFunc rfl) ?_
  refine X.opw X.wN rfl (X.assign rfl) ?_
  refine X.opsEnd ?_
  refine X.seq ?_
  refine X.region ?_
  refine X.opw X.wN rfl (X.move rfl) ?_
  refine X.opw X.wN rfl (X.move (v := .slice _ _ _) rfl) ?_
  refine X.opE X.wN rfl (X.callE (Of_c (w.heap.size + 1) _ hsq (by omega) (by omega)) Try.call20 rfl rfl) ?_
  rintro _ w3 ⟨bm3, rfl, hC3, hk3⟩
  have hk3' := hk3.size
  refine X.opE X.wN rfl (X.callE (Only_c (fun x : TH => decide (a2 ≤ x.1)) (fun w' => Blk w' w.heap.size [.int .i8 a2] 27) _ hC3 (hB1.keep (hk2.trans hk3)) (by omega) (by omega) (by omega) (fun w1 w2 h x => h.ext x (by (try simp only []); omega)) (fun x wa h => YC.of_ret (args := [_]) (cap := [_]) (cuts1_c x a2 _ wa h) Try.call32)) Try.call33 rfl rfl) ?_
  rintro _ w4 ⟨⟨p4, rfl⟩, hC4, hk4⟩
  have hk4' := hk4.size
  refine X.opE X.wN rfl (X.callE (rest_b _ (CV.cur hC4) (by omega) (fun k hk => by (try simp only [] at *); omega) (Nat.lt_of_le_of_lt (List.length_filter_le _ _) (take_lt _))) Try.call15 rfl rfl) ?_
  rintro _ w5 ⟨v5, rfl, hM5, hx5⟩
  have hx5' := hx5.size
  refine X.opw X.wN rfl (X.move rfl) ?_
  refine X.opw X.wN rfl (X.extr rfl rfl) ?_
  refine X.opw X.wN rfl (X.extr rfl rfl) ?_
  refine X.opw X.wN rfl (X.assign rfl) ?_
  refine X.opw X.wN rfl (X.assign (v := .bool _) rfl) ?_
  refine X.opsEnd ?_
  refine X.seq ?_
  refine X.region ?_
  refine X.opw X.wN rfl (X.assign rfl) ?_
  refine X.opsEnd ?_
  refine X.seq ?_
  refine X.seq ?_
  refine X.region ?_
  refine X.opw X.wN rfl (X.assign rfl) ?_
  refine X.opsEnd ?_
  refine X.block ?_
  -- LOOP live: 0=l, 1=n, 5=least, 8=a, 9=ok, 10=want*, 11=i*
  have hl30 := hsq.len
  obtain ⟨A8, c8, e8, hc8, hs8⟩ := hM5.slF KTh_flat 0 (fun _ _ => Nat.zero_le _)
  subst e8
  have hsl0 := ((hsq.keep (hk3.trans hk4)).ext hx5 (by intros; (try simp only []); omega))
  have hb5 := ((hB1.keep ((hk2.trans hk3).trans hk4)).ext hx5 (by intros; (try simp only []); omega))
  refine X.loopL (σ := Nat × Value) (fun s => [(0, .slice A1 mq c1), (1, .int .i64 a1), (5, .pointer (some ⟨w.heap.size, 0, none⟩)), (8, .slice A8 ((l1.take 30).filter (fun x : TH => decide (a2 ≤ x.1))).length c8), (9, .bool true), (10, s.2), (11, .int .i64 (s.1 : Int))]) (fun s w' => s.1 ≤ mq ∧ Mine KTh 29 (fun k => w5.heap.size ≤ k) 0 0 w' s.2 (((l1.take 30).take s.1).filter (fun x : TH => decide (a2 ≤ x.1))) ∧ Keep w5 w' ∧ Keep w w') (fun s => mq - s.1) (0, _) ⟨rfl, rfl, rfl, rfl, rfl, rfl, rfl, trivial⟩ ⟨Nat.zero_le _, Mine.nil _ _ _ _ _ _, Keep.refl _, ((((hk1.trans hk2).trans hk3).trans hk4).step hx5 (by intros; (try simp only [] at *); omega))⟩ ?_
  rintro ⟨i, v⟩ b0 wl ⟨hi, hMo, hwl, hk⟩ hback
  dsimp only
  simp only at hi hMo
  have hfl : (((l1.take 30).take i).filter (fun x : TH => decide (a2 ≤ x.1))).length ≤ 30 := Nat.le_trans (List.length_filter_le _ _) (by rw [List.length_take]; omega)
  have hk' := hk.size
  have hwl' := hwl.size
  refine X.seq ?_
  refine X.seq ?_
  refine X.region ?_
  refine X.opw X.wN rfl (X.move (v := .int .i64 _) rfl) ?_
  refine X.opw X.wN rfl (X.move (v := .slice _ _ _) rfl) ?_
  refine X.opw X.wN rfl (X.lenSl Try.underlying24 rfl) ?_
  refine X.opP X.wN rfl rfl (X.lss rfl rfl) (fun h35 => ?_) (fun h35 => ?_)
  · obtain ⟨x, hx⟩ := get2 i hl30 (by omega)
    refine X.opsEnd ?_
    refine X.condT rfl ?_
    refine X.skip ?_
    refine X.seq ?_
    refine X.block ?_
    refine X.seq ?_
    refine X.regionD (fun _ => False) 7 (by kernel_rfl) (by kernel_rfl) (fun w6 hk6 hz6 => ?_)
    refine X.dTake 0 rfl (by kernel_rfl) (by kernel_rfl) (by kernel_rfl) (X.dwN rfl) (fun w' hk' => X.move (v := .slice _ _ _) rfl) ?_
    refine X.dTake 1 rfl (by kernel_rfl) (by kernel_rfl) (by kernel_rfl) (X.dwN rfl) (fun w' hk' => X.move (v := .int .i64 _) rfl) ?_
    refine X.dTake 2 rfl (by kernel_rfl) (by kernel_rfl) (by kernel_rfl) (X.dwN rfl) (fun w' hk' => X.idxS ((hsl0.keep hwl).keep (hk6.trans hk')) Try.underlying24 Try.sizeOf29 rfl rfl ⟨by omega, by omega⟩) ?_
    refine X.dTake 3 rfl (by kernel_rfl) (by kernel_rfl) (by kernel_rfl) (X.dwN rfl) (fun w' hk' => X.fldA Try.underlying29 rfl rfl Try.sizeOf27) ?_
    refine X.dTake 4 rfl (by kernel_rfl) (by kernel_rfl) (by kernel_rfl) (X.dwN rfl) (fun w' hk' => X.loadSf Try.isAgg27 ((hsl0.keep hwl).keep (hk6.trans hk')) hx rfl (fun _ h => by rw [h.1]; rfl)) ?_
    refine X.dTake 5 rfl (by kernel_rfl) (by kernel_rfl) (by kernel_rfl) (X.dwN rfl) (fun w' hk' => X.load1B Try.isAgg27 ((hb5.keep hwl).keep (hk6.trans hk')) rfl rfl) ?_
    refine X.dTake 6 rfl (by kernel_rfl) (by kernel_rfl) (by kernel_rfl) (X.dwN rfl) (fun w' hk' => X.geq rfl rfl) ?_
    refine X.dEnd (by kernel_rfl) ?_
    refine X.condB rfl (fun hc => ?_) (fun hc => ?_)
    · have hfx : ((l1.take 30).take (i + 1)).filter (fun x : TH => decide (a2 ≤ x.1)) = ((l1.take 30).take i).filter (fun x : TH => decide (a2 ≤ x.1)) ++ [x] := by rw [take_at hx, List.filter_append, List.filter_cons, if_pos (by simpa using hc)]; rfl
      refine X.region ?_
      refine X.opw X.wN rfl (X.move rfl) ?_
      refine X.opw X.wN rfl (X.move (v := .slice _ _ _) rfl) ?_
      refine X.opw X.wN rfl (X.move (v := .int .i64 _) rfl) ?_
      refine X.opw X.wN rfl (X.idxS ((hsl0.keep hwl).keep hk6) Try.underlying24 Try.sizeOf29 rfl rfl ⟨by omega, by omega⟩) ?_
      refine X.opw X.wN rfl (X.loadSN Try.isAgg29 Try.sizeOf29 ((hsl0.keep hwl).keep hk6) hx rfl (fun _ h => h.1) rfl) ?_
      refine X.opE X.wN rfl (X.litKF KTh_flat (K := KTh) (xs := [Operand.tmp 49]) (vs := [evT x]) (ys := [x]) Try.underlying24 Try.sizeOf29 Try.zeroValue29 rfl rfl rfl rfl rfl (repsT x)) ?_
      rintro _ w7 ⟨rfl, hs7, hB7, hk7, hz7⟩
      refine X.opE X.wN rfl (X.appE (K := KTh) (S := fun k => w5.heap.size ≤ k) KTh_flat Try.underlying24 ETh rfl rfl (hMo.keep (hk6.trans hk7)) hs7 (by (try simp only [List.length_append, List.length_cons, List.length_nil, List.length_take, List.length_drop, List.length_map, List.length_range]); omega) (by intros; (try simp only [] at *); omega)) ?_
      rintro v8 w8 ⟨hM8, hx8⟩
      have hx8' := hx8.size
      refine X.opw X.wN rfl (X.assign rfl) ?_
      refine X.opsEnd ?_
      refine X.inBlock ?_
      refine X.region ?_
      refine X.opw X.wN rfl (X.move (v := .int .i64 _) rfl) ?_
      refine X.opw X.wN rfl (X.add rfl rfl (X.w_i64 (by omega))) ?_
      refine X.opw X.wN rfl (X.assign (v := .int .i64 _) rfl) ?_
      refine X.opsEnd ?_
      refine hback (i + 1, _) _ _ ⟨rfl, rfl, rfl, rfl, rfl, rfl, rfl, trivial⟩ ⟨by dsimp only; omega, by dsimp only; rw [hfx]; exact hM8, (((hwl.trans hk6).trans hk7).step hx8 (by intros; (try simp only [] at *); omega)), (((hk.trans hk6).trans hk7).step hx8 (by intros; (try simp only [] at *); omega))⟩ (by dsimp only; omega)
    · have hfx : ((l1.take 30).take (i + 1)).filter (fun x : TH => decide (a2 ≤ x.1)) = ((l1.take 30).take i).filter (fun x : TH => decide (a2 ≤ x.1)) ++ [] := by rw [take_at hx, List.filter_append, List.filter_cons, if_neg (by simpa using hc)]; rfl
      refine X.skip ?_
      refine X.inBlock ?_
      refine X.region ?_
      refine X.opw X.wN rfl (X.move (v := .int .i64 _) rfl) ?_
      refine X.opw X.wN rfl (X.add rfl rfl (X.w_i64 (by omega))) ?_
      refine X.opw X.wN rfl (X.assign (v := .int .i64 _) rfl) ?_
      refine X.opsEnd ?_
      refine hback (i + 1, _) _ _ ⟨rfl, rfl, rfl, rfl, rfl, rfl, rfl, trivial⟩ ⟨by dsimp only; omega, by dsimp only; rw [hfx]; rw [List.append_nil]; exact (hMo.keep hk6), (hwl.trans hk6), (hk.trans hk6)⟩ (by dsimp only; omega)
  · rw [List.take_of_length_le (show (l1.take 30).length ≤ i by omega)] at hMo
    obtain ⟨A10, c10, e10, hc10, hs10⟩ := hMo.slF KTh_flat 0 (fun _ _ => Nat.zero_le _)
    subst e10
    have htk : (l1.take 30).take a1.toNat = (l1.take 30).take (min a1.toNat mq) := by
      by_cases h : a1.toNat ≤ mq
      · rw [Nat.min_eq_left h]
      · rw [List.take_of_length_le (show (l1.take 30).length ≤ a1.toNat by omega), List.take_of_length_le (show (l1.take 30).length ≤ min a1.toNat mq by omega)]
    have hdk : (l1.take 30).drop a1.toNat = (l1.take 30).drop (min a1.toNat mq) := by
      by_cases h : a1.toNat ≤ mq
      · rw [Nat.min_eq_left h]
      · rw [List.drop_of_length_le (show (l1.take 30).length ≤ a1.toNat by omega), List.drop_of_length_le (show (l1.take 30).length ≤ min a1.toNat mq by omega)]
    refine X.opsEnd ?_
    refine X.condF rfl ?_
    refine X.exit rfl ?_
    refine X.seq ?_
    refine X.region ?_
    refine X.opw X.wN rfl (X.move (v := .slice _ _ _) rfl) ?_
    refine X.opE X.wN rfl (X.callE (Of_c (w.heap.size + 1) _ (hsl0.keep hwl) (by omega) (by omega)) Try.call20 rfl rfl) ?_
    rintro _ w9 ⟨bm9, rfl, hC9, hk9⟩
    have hk9' := hk9.size
    refine X.opw X.wN rfl (X.assign rfl) ?_
    refine X.opsEnd ?_
    refine X.seq ?_
    refine X.region ?_
    refine X.opw X.wN rfl (X.move (v := .int .i64 _) rfl) ?_
    refine X.opw X.wN rfl (X.move rfl) ?_
    refine X.opE X.wN rfl (X.callE (First_c a1 _ hC9 (by omega) (by omega) (by omega) (by omega)) Try.call34 rfl rfl) ?_
    rintro _ w10 ⟨bm10, rfl, hCq10, hk10⟩
    have hk10' := hk10.size
    refine X.opE X.wN rfl (X.callE (rest_bQ _ hCq10 (by omega) (fun k hk => by (try simp only [] at *); omega) (by rw [List.length_take]; omega)) Try.call15 rfl rfl) ?_
    rintro _ w11 ⟨v11, rfl, hM11, hx11, hQ11⟩
    have hx11' := hx11.size
    refine X.opw X.wN rfl (X.move rfl) ?_
    refine X.opw X.wN rfl (X.extr rfl rfl) ?_
    refine X.opw X.wN rfl (X.extr rfl rfl) ?_
    refine X.opw X.wN rfl (X.assign rfl) ?_
    refine X.opw X.wN rfl (X.assign (v := .bool _) rfl) ?_
    refine X.opsEnd ?_
    refine X.seq ?_
    refine X.region ?_
    refine X.opw X.wN rfl (X.move (v := .int .i64 _) rfl) ?_
    refine X.opw X.wN rfl (X.move (v := .slice _ _ _) rfl) ?_
    refine X.opw X.wN rfl (X.lenSl Try.underlying24 rfl) ?_
    refine X.opw X.wN rfl (minI rfl rfl) ?_
    refine X.opw X.wN rfl (maxI (c := ((min a1.toNat mq : Nat) : Int)) rfl rfl (by (repeat' split) <;> omega)) ?_
    refine X.opw X.wN rfl (X.assign (v := .int .i64 _) rfl) ?_
    refine X.opsEnd ?_
    refine X.seq ?_
    refine X.region ?_
    refine X.opw X.wN rfl (X.move rfl) ?_
    refine X.opE X.wN rfl (X.callE (rest_b _ hQ11 (by omega) (fun k hk => by (try simp only [] at *); omega) (by rw [List.length_drop]; omega)) Try.call15 rfl rfl) ?_
    rintro _ w12 ⟨v12, rfl, hM12, hx12⟩
    have hx12' := hx12.size
    refine X.opw X.wN rfl (X.move rfl) ?_
    refine X.opw X.wN rfl (X.extr rfl rfl) ?_
    refine X.opw X.wN rfl (X.extr rfl rfl) ?_
    refine X.opw X.wN rfl (X.assign rfl) ?_
    refine X.opw X.wN rfl (X.assign (v := .bool _) rfl) ?_
    refine X.opsEnd ?_
    refine X.seq ?_
    refine X.region ?_
    refine X.opw X.wN rfl (X.move (v := .slice _ _ _) rfl) ?_
    refine X.opE X.wN rfl (X.callE (Of_c (w.heap.size + 1) _ ((((hsl0.keep hwl).keep (hk9.trans hk10)).ext hx11 (by intros; (try simp only []); omega)).ext hx12 (by intros; (try simp only []); omega)) (by omega) (by omega)) Try.call20 rfl rfl) ?_
    rintro _ w13 ⟨bm13, rfl, hC13, hk13⟩
    have hk13' := hk13.size
    refine X.opE X.wN rfl (X.callE (Turn_c (fun x => x.2) _ hC13 (by omega) (by omega) (by omega) (fun x wa => YC.of_ret (args := [_]) (cap := []) (cuts2_c x wa) Try.call37)) Try.call36 rfl rfl) ?_
    rintro _ w14 ⟨bm14, rfl, hCi14, hk14⟩
    have hk14' := hk14.size
    refine X.opE X.wN rfl (X.callE (resti_c _ hCi14 (by omega) (fun k hk => by (try simp only [] at *); omega) (by rw [List.length_map]; omega)) Try.call35 rfl rfl) ?_
    rintro _ w15 ⟨v15, rfl, hM15, hx15⟩
    have hx15' := hx15.size
    refine X.opw X.wN rfl (X.move rfl) ?_
    refine X.opw X.wN rfl (X.extr rfl rfl) ?_
    refine X.opw X.wN rfl (X.extr rfl rfl) ?_
    refine X.opw X.wN rfl (X.assign rfl) ?_
    refine X.opw X.wN rfl (X.assign (v := .bool _) rfl) ?_
    refine X.opsEnd ?_
    refine X.seq ?_
    refine X.seq ?_
    refine X.region ?_
    refine X.opw X.wN rfl (X.move (v := .bool true) rfl) ?_
    refine X.opw X.wN rfl (X.not_ rfl) ?_
    refine X.opw X.wN rfl (X.move (v := .bool false) rfl) ?_
    refine X.opw (X.wG rfl rfl rfl) rfl (X.move (v := .bool true) rfl) ?_
    refine X.opw (X.wG rfl rfl rfl) rfl (X.not_ rfl) ?_
    refine X.opw X.wN rfl (X.pickF (v := .bool false) rfl rfl) ?_
    refine X.opw X.wN rfl (X.move (v := .bool false) rfl) ?_
    refine X.opw (X.wG rfl rfl rfl) rfl (X.move (v := .bool true) rfl) ?_
    refine X.opw (X.wG rfl rfl rfl) rfl (X.not_ rfl) ?_
    refine X.opw X.wN rfl (X.pickF (v := .bool false) rfl rfl) ?_
    refine X.opw X.wN rfl (X.move (v := .bool false) rfl) ?_
    refine X.opw (X.wG rfl rfl rfl) rfl (X.move (v := .bool true) rfl) ?_
    refine X.opw (X.wG rfl rfl rfl) rfl (X.not_ rfl) ?_
    refine X.opw X.wN rfl (X.pickF (v := .bool false) rfl rfl) ?_
    refine X.opw X.wN rfl (X.move (v := .bool false) rfl) ?_
    refine X.opw (X.wG rfl rfl rfl) rfl (X.move (v := .slice _ _ _) rfl) ?_
    refine X.opw (X.wG rfl rfl rfl) rfl (X.move (v := .slice _ _ _) rfl) ?_
    refine X.opE (X.wG rfl rfl rfl) rfl (X.callE (Same_c _ ((((((hs8.keep hwl).keep (hk9.trans hk10)).ext hx11 (by intros; (try simp only []); omega)).ext hx12 (by intros; (try simp only []); omega)).keep (hk13.trans hk14)).ext hx15 (by intros; (try simp only []); omega)) (((((hs10.keep (hk9.trans hk10)).ext hx11 (by intros; (try simp only []); omega)).ext hx12 (by intros; (try simp only []); omega)).keep (hk13.trans hk14)).ext hx15 (by intros; (try simp only []); omega))) Try.call22 rfl rfl) ?_
    rintro _ w16 ⟨rfl, hk16⟩
    have hk16' := hk16.size
    refine X.opw (X.wG rfl rfl rfl) rfl (X.not_ rfl) ?_
    refine X.opw X.wN rfl (X.pickF (v := .bool _) rfl rfl) ?_
    refine X.opw X.wN rfl (X.move (v := .bool _) rfl) ?_
    refine X.forkO 98 rfl (fun h98 => ?_) (fun h98 => ?_)
    · simp at h98
    · refine X.opw (X.wG rfl rfl rfl) rfl (X.move rfl) ?_
      refine X.opw (X.wG rfl rfl rfl) rfl (X.move (v := .slice _ _ _) rfl) ?_
      refine X.opw (X.wG rfl rfl rfl) rfl (X.move (v := .int .i64 _) rfl) ?_
      refine X.opw (X.wG rfl rfl rfl) rfl (X.cutHr Try.underlying24 Try.sizeOf29 rfl rfl (by omega)) ?_
      have q18 := ((((hM11.ext hx12 (by intros; (try simp only []); omega) (by intros; (try simp only []); omega)).keep (hk13.trans hk14)).ext hx15 (by intros; (try simp only []); omega) (by intros; (try simp only []); omega)).keep hk16).slF KTh_flat 0 (fun _ _ => Nat.zero_le _)
      obtain ⟨A18, c18, rfl, hc18, hs18⟩ := q18
      refine X.opE (X.wG rfl rfl rfl) rfl (X.callE (Same_c _ hs18 ((((((((hsl0.keep hwl).take (min a1.toNat mq) (by omega)).keep (hk9.trans hk10)).ext hx11 (by intros; (try simp only []); omega)).ext hx12 (by intros; (try simp only []); omega)).keep (hk13.trans hk14)).ext hx15 (by intros; (try simp only []); omega)).keep hk16)) Try.call22 rfl rfl) ?_
      rintro _ w17 ⟨rfl, hk17⟩
      have hk17' := hk17.size
      refine X.opw (X.wG rfl rfl rfl) rfl (X.not_ rfl) ?_
      refine X.opw X.wN rfl (X.pickF (v := .bool _) rfl rfl) ?_
      refine X.opw X.wN rfl (X.move (v := .bool _) rfl) ?_
      refine X.forkO 106 rfl (fun h106 => ?_) (fun h106 => ?_)
      · rw [htk] at h106; simp at h106
      · refine X.opw (X.wG rfl rfl rfl) rfl (X.move rfl) ?_
        refine X.opw (X.wG rfl rfl rfl) rfl (X.move (v := .slice _ _ _) rfl) ?_
        refine X.opw (X.wG rfl rfl rfl) rfl (X.move (v := .int .i64 _) rfl) ?_
        refine X.opw (X.wG rfl rfl rfl) rfl (X.cutL Try.underlying24 Try.sizeOf29 rfl rfl (by omega)) ?_
        have q20 := (((hM12.keep (hk13.trans hk14)).ext hx15 (by intros; (try simp only []); omega) (by intros; (try simp only []); omega)).keep (hk16.trans hk17)).slF KTh_flat 0 (fun _ _ => Nat.zero_le _)
        obtain ⟨A20, c20, rfl, hc20, hs20⟩ := q20
        refine X.opE (X.wG rfl rfl rfl) rfl (X.callE (Same_c _ hs20 ((((((((hsl0.keep hwl).drop (min a1.toNat mq) c1 (by omega) (by omega)).keep (hk9.trans hk10)).ext hx11 (by intros; (try simp only []); omega)).ext hx12 (by intros; (try simp only []); omega)).keep (hk13.trans hk14)).ext hx15 (by intros; (try simp only []); omega)).keep (hk16.trans hk17))) Try.call22 rfl rfl) ?_
        rintro _ w19 ⟨rfl, hk19⟩
        have hk19' := hk19.size
        refine X.opw (X.wG rfl rfl rfl) rfl (X.not_ rfl) ?_
        refine X.opw X.wN rfl (X.pickF (v := .bool _) rfl rfl) ?_
        refine X.opw X.wN rfl (X.move (v := .bool _) rfl) ?_
        refine X.forkO 114 rfl (fun h114 => ?_) (fun h114 => ?_)
        · rw [hdk] at h114; simp at h114
        · refine X.opw (X.wG rfl rfl rfl) rfl (X.move rfl) ?_
          have q21 := (hM15.keep ((hk16.trans hk17).trans hk19)).slF KIt_flat 0 (fun _ _ => Nat.zero_le _)
          obtain ⟨A21, c21, rfl, hc21, hs21⟩ := q21
          refine X.opw (X.wG rfl rfl rfl) rfl (X.lenSl Try.underlying54 rfl) ?_
          refine X.opw (X.wG rfl rfl rfl) rfl (X.move (v := .slice _ _ _) rfl) ?_
          refine X.opw (X.wG rfl rfl rfl) rfl (X.lenSl Try.underlying24 rfl) ?_
          refine X.opP (X.wG rfl rfl rfl) rfl rfl (X.neI rfl rfl) (fun h119 => ?_) (fun h119 => ?_)
          · exact absurd (by rw [List.length_map]; omega) h119
          · refine X.opw X.wN rfl (X.pickF (v := .bool false) rfl rfl) ?_
            refine X.opsEnd ?_
            refine X.condF rfl ?_
            refine X.skip ?_
            refine X.seq ?_
            refine X.seq ?_
            refine X.region ?_
            refine X.opw X.wN rfl (X.assign rfl) ?_
            refine X.opsEnd ?_
            refine X.block ?_
            -- LOOP live: 0=l, 18=m, 20=i*
            have hs18 := hs21
            have hsl9 := (((((((hsl0.keep hwl).keep (hk9.trans hk10)).ext hx11 (by intros; (try simp only []); omega)).ext hx12 (by intros; (try simp only []); omega)).keep (hk13.trans hk14)).ext hx15 (by intros; (try simp only []); omega)).keep ((hk16.trans hk17).trans hk19))
            have hlm : ((l1.take 30).map fun x => x.2).length = mq := by rw [List.length_map]; omega
            refine X.loopL (σ := Nat) (fun s => [(0, .slice A1 mq c1), (18, .slice A21 ((l1.take 30).map fun x => x.2).length c21), (20, .int .i64 (s : Int))]) (fun s w' => s ≤ mq ∧ Keep w19 w' ∧ Keep w w') (fun s => mq - s) 0 ⟨rfl, rfl, rfl, trivial⟩ ⟨Nat.zero_le _, Keep.refl _, ((((((((((hk.trans hk9).trans hk10).step hx11 (by intros; (try simp only [] at *); omega)).step hx12 (by intros; (try simp only [] at *); omega)).trans hk13).trans hk14).step hx15 (by intros; (try simp only [] at *); omega)).trans hk16).trans hk17).trans hk19)⟩ ?_
            rintro j b2 wm ⟨hj, hwm, hkm⟩ hback2
            have hkm' := hkm.size
            refine X.seq ?_
            refine X.seq ?_
            refine X.region ?_
            refine X.opw X.wN rfl (X.move (v := .int .i64 _) rfl) ?_
            refine X.opw X.wN rfl (X.move (v := .slice _ _ _) rfl) ?_
            refine X.opw X.wN rfl (X.lenSl Try.underlying24 rfl) ?_
            refine X.opP X.wN rfl rfl (X.lss rfl rfl) (fun h124 => ?_) (fun h124 => ?_)
            · obtain ⟨x, hx⟩ := get2 j hl30 (by omega)
              have hy : ((l1.take 30).map fun x => x.2)[j]? = some x.2 := by rw [List.getElem?_map, hx]; rfl
              refine X.opsEnd ?_
              refine X.condT rfl ?_
              refine X.skip ?_
              refine X.seq ?_
              refine X.block ?_
              refine X.seq ?_
              refine X.regionD (fun _ => False) 10 (by kernel_rfl) (by kernel_rfl) (fun w22 hk22 hz22 => ?_)
              refine X.dTake 0 rfl (by kernel_rfl) (by kernel_rfl) (by kernel_rfl) (X.dwN rfl) (fun w' hk' => X.move (v := .slice _ _ _) rfl) ?_
              refine X.dTake 1 rfl (by kernel_rfl) (by kernel_rfl) (by kernel_rfl) (X.dwN rfl) (fun w' hk' => X.move (v := .int .i64 _) rfl) ?_
              refine X.dTake 2 rfl (by kernel_rfl) (by kernel_rfl) (by kernel_rfl) (X.dwN rfl) (fun w' hk' => X.idxS ((hs18.keep hwm).keep (hk22.trans hk')) Try.underlying54 Try.sizeOf3 rfl rfl ⟨by omega, by omega⟩) ?_
              refine X.dTake 3 rfl (by kernel_rfl) (by kernel_rfl) (by kernel_rfl) (X.dwN rfl) (fun w' hk' => X.loadS Try.isAgg3 ((hs18.keep hwm).keep (hk22.trans hk')) hy rfl (fun _ h => by rw [h.1]; rfl)) ?_
              refine X.dTake 4 rfl (by kernel_rfl) (by kernel_rfl) (by kernel_rfl) (X.dwN rfl) (fun w' hk' => X.move (v := .slice _ _ _) rfl) ?_
              refine X.dTake 5 rfl (by kernel_rfl) (by kernel_rfl) (by kernel_rfl) (X.dwN rfl) (fun w' hk' => X.move (v := .int .i64 _) rfl) ?_
              refine X.dTake 6 rfl (by kernel_rfl) (by kernel_rfl) (by kernel_rfl) (X.dwN rfl) (fun w' hk' => X.idxS ((hsl9.keep hwm).keep (hk22.trans hk')) Try.underlying24 Try.sizeOf29 rfl rfl ⟨by omega, by omega⟩) ?_
              refine X.dTake 7 rfl (by kernel_rfl) (by kernel_rfl) (by kernel_rfl) (X.dwN rfl) (fun w' hk' => X.fldA Try.underlying29 rfl rfl Try.sizeOf3) ?_
              refine X.dTake 8 rfl (by kernel_rfl) (by kernel_rfl) (by kernel_rfl) (X.dwN rfl) (fun w' hk' => X.loadSf Try.isAgg3 ((hsl9.keep hwm).keep (hk22.trans hk')) hx rfl (fun _ h => by rw [h.1]; rfl)) ?_
              refine X.dTake 9 rfl (by kernel_rfl) (by kernel_rfl) (by kernel_rfl) (X.dwN rfl) (fun w' hk' => X.neI rfl rfl) ?_
              refine X.dEnd (by kernel_rfl) ?_
              refine X.condB rfl (fun hc => ?_) (fun hc => ?_)
              · simp at hc
              · refine X.skip ?_
                refine X.inBlock ?_
                refine X.region ?_
                refine X.opw X.wN rfl (X.move (v := .int .i64 _) rfl) ?_
                refine X.opw X.wN rfl (X.add rfl rfl (X.w_i64 (by omega))) ?_
                refine X.opw X.wN rfl (X.assign (v := .int .i64 _) rfl) ?_
                refine X.opsEnd ?_
                refine hback2 (j + 1) _ _ ⟨rfl, rfl, rfl, trivial⟩ ⟨by omega, (hwm.trans hk22), (hkm.trans hk22)⟩ (by omega)
            · refine X.opsEnd ?_
              refine X.condF rfl ?_
              refine X.exit rfl ?_
              refine X.seq ?_
              refine X.region ?_
              refine X.opE X.wN rfl (X.callE (alive_c _) Try.call14 rfl rfl) ?_
              rintro _ w23 ⟨rfl, hk23⟩
              have hk23' := hk23.size
              refine X.opw X.wN rfl (X.assign (v := .bool _) rfl) ?_
              refine X.opsEnd ?_
              refine X.ret1 (v := (.bool _)) Try.func8 Try.results8 rfl ?_
              exact ⟨rfl, (hkm.trans hk23)⟩
end Go.Proofs.Ytgfficbkajcdpaa
