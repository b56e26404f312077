/- Contracts of package pack's laws: short, begins, alive. -/
import Derived.Test.YtaclpphhidlgpaaPackF
namespace Go.Proofs.Ytaclpphhidlgpaa
open Go Go.Proofs.Ytaclpphhidlgpaa.X
set_option linter.unusedVariables false
set_option linter.unusedSimpArgs false

theorem bytes_eq (a b : List UInt8) : ((⟨a.toArray⟩ : ByteArray) = ⟨b.toArray⟩) ↔ a = b := by
  constructor
  · intro h
    have := congrArg (fun x : ByteArray => x.data.toList) h
    simpa using this
  · rintro rfl; rfl
def begB (l1 l2 : List UInt8) : Bool := decide (l1.length ≤ l2.length) && decide (l2.take l1.length = l1)
-- f15 "pedigree/pedigreelaw03.short" params [25] results [25] -> [(ResultVar.tmp 2)] nfree 0 ntmps 9 names ["
theorem short_c {lo hi : Nat} {A : Option Addr} {n c : Nat} {l : List UInt8} (w : World) (hs : Sl KB lo hi w A n l) (hnc : n ≤ c) : Ret Try.prog 15 #[.slice A n c] w fun r w' => ∃ m, r = .slice A m c ∧ m ≤ c ∧ m ≤ 3000 ∧ Sl KB lo hi w' A m (l.take 3000) ∧ Keep w w' := by
  have hn := hs.bound
  have hl := hs.len
  refine X.enter Try.func15 rfl Try.ntmps15 rfl ?_
  refine X.seq ?_
  refine X.region ?_
  refine X.opw X.wN rfl (X.assign rfl) ?_
  refine X.opsEnd ?_
  refine X.seq ?_
  refine X.seq ?_
  refine X.region ?_
  refine X.opw X.wN rfl (X.move (v := .slice _ _ _) rfl) ?_
  refine X.opw X.wN rfl (X.lenSl Try.underlying25 rfl) ?_
  refine X.opP X.wN rfl rfl (X.gtr rfl rfl) (fun h5 => ?_) (fun h5 => ?_)
  · refine X.opsEnd ?_
    refine X.condT rfl ?_
    refine X.seq ?_
    refine X.region ?_
    refine X.opw X.wN rfl (X.move (v := .slice _ _ _) rfl) ?_
    refine X.opw X.wN rfl (X.cutHr Try.underlying25 Try.sizeOf5 rfl rfl (by omega)) ?_
    refine X.opw X.wN rfl (X.assign (v := .slice _ _ _) rfl) ?_
    refine X.opsEnd ?_
    refine X.ret1 Try.func15 Try.results15 rfl ?_
    exact ⟨3000, rfl, by omega, by omega, hs.take 3000 (by omega), (Keep.refl _)⟩
  · refine X.opsEnd ?_
    refine X.condF rfl ?_
    refine X.skip ?_
    refine X.seq ?_
    refine X.region ?_
    refine X.opw X.wN rfl (X.move (v := .slice _ _ _) rfl) ?_
    refine X.opw X.wN rfl (X.assign (v := .slice _ _ _) rfl) ?_
    refine X.opsEnd ?_
    refine X.ret1 Try.func15 Try.results15 rfl ?_
    exact ⟨n, rfl, hnc, by omega, by rw [List.take_of_length_le (by omega)]; exact hs, (Keep.refl _)⟩
-- f16 "pedigree/pedigreelaw03.begins" params [25, 25] results [4] -> [(ResultVar.tmp 4)] nfree 0 ntmps 20 nam
theorem begins_c {lo1 hi1 lo2 hi2 : Nat} {A1 A2 : Option Addr} {n1 n2 c1 c2 : Nat} {l1 l2 : List UInt8} (w : World) (hs1 : Sl KB lo1 hi1 w A1 n1 l1) (hs2 : Sl KB lo2 hi2 w A2 n2 l2) (hc2 : n2 ≤ c2) : Ret Try.prog 16 #[.slice A1 n1 c1, .slice A2 n2 c2] w fun r w' => r = .bool (begB l1 l2) ∧ Keep w w' := by
  have hn1 := hs1.bound
  have hl1 := hs1.len
  have hn2 := hs2.bound
  have hl2 := hs2.len
  refine X.enter Try.func16 rfl Try.ntmps16 rfl ?_
  refine X.seq ?_
  refine X.region ?_
  refine X.opw X.wN rfl (X.assign rfl) ?_
  refine X.opsEnd ?_
  refine X.seq ?_
  refine X.regionD (fun k => w.heap.size ≤ k) 15 (by kernel_rfl) (by kernel_rfl) (fun w1 hk1 hz1 => ?_)
  refine X.dTake 0 rfl (by kernel_rfl) (by kernel_rfl) (by kernel_rfl) (X.dwN rfl) (fun w' hk' => X.move (v := .slice _ _ _) rfl) ?_
  refine X.dTake 1 rfl (by kernel_rfl) (by kernel_rfl) (by kernel_rfl) (X.dwN rfl) (fun w' hk' => X.lenSl Try.underlying25 rfl) ?_
  refine X.dTake 2 rfl (by kernel_rfl) (by kernel_rfl) (by kernel_rfl) (X.dwN rfl) (fun w' hk' => X.move (v := .slice _ _ _) rfl) ?_
  refine X.dTake 3 rfl (by kernel_rfl) (by kernel_rfl) (by kernel_rfl) (X.dwN rfl) (fun w' hk' => X.lenSl Try.underlying25 rfl) ?_
  refine X.dTake 4 rfl (by kernel_rfl) (by kernel_rfl) (by kernel_rfl) (X.dwN rfl) (fun w' hk' => X.leq rfl rfl) ?_
  refine X.dTake 5 rfl (by kernel_rfl) (by kernel_rfl) (by kernel_rfl) (X.dwN rfl) (fun w' hk' => X.move (v := .bool _) rfl) ?_
  refine X.dFork 10 rfl (fun h10 => ?_) (fun h10 => ?_)
  · have h10' := of_decide_eq_true h10
    refine X.dTake 6 rfl (by kernel_rfl) (by kernel_rfl) (by kernel_rfl) (X.dwG rfl rfl rfl) (fun w' hk' => X.move (v := .slice _ _ _) rfl) ?_
    refine X.dTake 7 rfl (by kernel_rfl) (by kernel_rfl) (by kernel_rfl) (X.dwG rfl rfl rfl) (fun w' hk' => X.move (v := .slice _ _ _) rfl) ?_
    refine X.dTake 8 rfl (by kernel_rfl) (by kernel_rfl) (by kernel_rfl) (X.dwG rfl rfl rfl) (fun w' hk' => X.lenSl Try.underlying25 rfl) ?_
    refine X.dTake 9 rfl (by kernel_rfl) (by kernel_rfl) (by kernel_rfl) (X.dwG rfl rfl rfl) (fun w' hk' => X.cutHr Try.underlying25 Try.sizeOf5 rfl rfl (by omega)) ?_
    refine X.dTake 10 rfl (by kernel_rfl) (by kernel_rfl) (by kernel_rfl) (X.dwG rfl rfl rfl) (fun w' hk' => X.str Try.underlying25 Try.underlying5 Try.underlying9 rfl KB_is rfl ((hs2.take _ (by omega)).keep (hk1.step hk' (by intros; (try simp only [] at *); omega)))) ?_
    refine X.dTake 11 rfl (by kernel_rfl) (by kernel_rfl) (by kernel_rfl) (X.dwG rfl rfl rfl) (fun w' hk' => X.move (v := .slice _ _ _) rfl) ?_
    refine X.dTake 12 rfl (by kernel_rfl) (by kernel_rfl) (by kernel_rfl) (X.dwG rfl rfl rfl) (fun w' hk' => X.str Try.underlying25 Try.underlying5 Try.underlying9 rfl KB_is rfl (hs1.keep (hk1.step hk' (by intros; (try simp only [] at *); omega)))) ?_
    refine X.dTake 13 rfl (by kernel_rfl) (by kernel_rfl) (by kernel_rfl) (X.dwG rfl rfl rfl) (fun w' hk' => X.eqD rfl rfl) ?_
    refine X.dTake 14 rfl (by kernel_rfl) (by kernel_rfl) (by kernel_rfl) (X.dwN rfl) (fun w' hk' => X.pickT (v := .bool _) rfl rfl) ?_
    refine X.dStep (i := 15) (by kernel_rfl) rfl (X.dwN rfl) (X.assign (v := .bool _) rfl) (fun h => absurd h (by decide)) ?_
    refine X.dEnd (by kernel_rfl) ?_
    refine X.ret1 (v := (.bool _)) Try.func16 Try.results16 rfl ?_
    exact ⟨by congr 1; rw [begB, decide_eq_true (show l1.length ≤ l2.length by simpa [hl1, hl2] using h10), Bool.true_and, Int.toNat_natCast, hl1]; exact decide_eq_decide.2 (bytes_eq _ _).symm |>.symm, hk1⟩
  · refine X.dTakeS 6 rfl (by kernel_rfl) (by kernel_rfl) (by kernel_rfl) rfl rfl rfl rfl ?_
    refine X.dTakeS 7 rfl (by kernel_rfl) (by kernel_rfl) (by kernel_rfl) rfl rfl rfl rfl ?_
    refine X.dTakeS 8 rfl (by kernel_rfl) (by kernel_rfl) (by kernel_rfl) rfl rfl rfl rfl ?_
    refine X.dTakeS 9 rfl (by kernel_rfl) (by kernel_rfl) (by kernel_rfl) rfl rfl rfl rfl ?_
    refine X.dTakeS 10 rfl (by kernel_rfl) (by kernel_rfl) (by kernel_rfl) rfl rfl rfl rfl ?_
    refine X.dSkip (i := 11) (by kernel_rfl) rfl rfl rfl rfl rfl ?_
    refine X.dSkip (i := 12) (by kernel_rfl) rfl rfl rfl rfl rfl ?_
    refine X.dSkip (i := 13) (by kernel_rfl) rfl rfl rfl rfl rfl ?_
    refine X.dTake 14 rfl (by kernel_rfl) (by kernel_rfl) (by kernel_rfl) (X.dwN rfl) (fun w' hk' => X.pickF (v := .bool false) rfl rfl) ?_
    refine X.dStep (i := 15) (by kernel_rfl) rfl (X.dwN rfl) (X.assign (v := .bool false) rfl) (fun h => absurd h (by decide)) ?_
    refine X.dEnd (by kernel_rfl) ?_
    refine X.ret1 (v := (.bool _)) Try.func16 Try.results16 rfl ?_
    exact ⟨by congr 1; rw [begB, decide_eq_false (show ¬ l1.length ≤ l2.length by simpa [hl1, hl2] using h10), Bool.false_and], hk1⟩
def al1 : VAL := (1, 5, ⟨#[]⟩)
def al2 : VAL := (2, 0, ⟨#[97]⟩)
theorem al_T : isT [al1, al2] = true := by decide
theorem numB_lt {x : Nat} (h : x < 128) : numB x = [UInt8.ofNat x] := by rw [numB, if_pos h]
theorem al_tup : tupB [al1, al2] = [2, 1, 10, 2, 1, 97] := by
  have e1 : numB (zig 5).toNat = [10] := numB_lt (by decide)
  have e2 : numB 1 = [1] := numB_lt (by decide)
  show UInt8.ofNat 2 :: (1 :: numB (zig 5).toNat ++ ((2 :: (numB 1 ++ [97])) ++ [])) = _
  rw [e1, e2]
  rfl
theorem al_key : keyB [al1, al2] = [1, 128, 0, 0, 0, 0, 0, 0, 5, 2, 97, 0, 1] := by decide
theorem al_int : numB (zig (-1)).toNat = [1] := numB_lt (by decide)
theorem al1_ok : okV al1 := by simp [okV, al1, okI, ByteArray.size]
theorem al2_ok : okV al2 := by simp [okV, al2, okI, ByteArray.size]
theorem aliveT_c {lo hi : Nat} {A : Option Addr} {n c : Nat} (w : World) (hs : Sl KV lo hi w A n [al1, al2]) (hhi : hi ≤ w.heap.size) : Ret Try.prog 19 #[.slice A n c] w fun r w' => ∃ v, r = .tuple #[v, .int .i64 0] ∧ FreshB w w' v [2, 1, 10, 2, 1, 97] :=
  (Tuple_c w hs hhi).mono fun r w' h => by rw [if_pos al_T, if_pos al_T, al_tup] at h; exact h
theorem aliveK_c {lo hi : Nat} {A : Option Addr} {n c : Nat} (w : World) (hs : Sl KV lo hi w A n [al1, al2]) (hhi : hi ≤ w.heap.size) : Ret Try.prog 11 #[.slice A n c] w fun r w' => ∃ v, r = .tuple #[v, .int .i64 0] ∧ FreshB w w' v [1, 128, 0, 0, 0, 0, 0, 0, 5, 2, 97, 0, 1] :=
  (Key_c w hs hhi).mono fun r w' h => by rw [if_pos al_T, if_pos al_T, al_key] at h; exact h
theorem aliveI_c (w : World) : Ret Try.prog 26 #[.int .i64 (-1)] w fun v w' => FreshB w w' v [1] := by
  have := Int_c (-1) (by simp [okI]) w
  rw [al_int] at this
  exact this
-- f13 "pedigree/pedigreelaw03.alive" params [] results [4] -> [(ResultVar.tmp 0)] nfree 0 ntmps 40 names ["",
theorem alive_c (w : World) : Ret Try.prog 13 #[] w fun r w' => r = .bool true ∧ Keep w w' := by
  refine X.enter Try.func13 rfl Try.ntmps13 rfl ?_
  refine X.seq ?_
  refine X.region ?_
  refine X.opw X.wN rfl (X.assign rfl) ?_
  refine X.opsEnd ?_
  refine X.seq ?_
  refine X.region ?_
  refine X.opw X.wN rfl (X.buildB (vs := [(0, .int .i64 1), (1, .int .i64 5)]) (cs := (encV al1).toArray) rfl (by kernel_rfl)) ?_
  refine X.opw X.wN rfl (X.buildB (vs := [(0, .int .i64 2), (2, .string ⟨#[97]⟩)]) (cs := (encV al2).toArray) rfl (by kernel_rfl)) ?_
  refine X.opE X.wN rfl (X.litKE (K := KV) (xs := [Operand.tmp 6, Operand.tmp 7]) (vs := [.agg (encV al1).toArray, .agg (encV al2).toArray]) (ys := [al1, al2]) Try.underlying23 Try.sizeOf75 Try.zeroValue75 rfl rfl rfl rfl rfl ⟨⟨encV al1, rfl, rfl, al1_ok⟩, ⟨encV al2, rfl, rfl, al2_ok⟩, trivial⟩) ?_
  rintro _ w1 ⟨rfl, hs1, hB1, hk1, hz1⟩
  refine X.opw X.wN rfl (X.assign rfl) ?_
  refine X.opsEnd ?_
  refine X.seq ?_
  refine X.region ?_
  refine X.opw X.wN rfl (X.move rfl) ?_
  refine X.opE X.wN rfl (X.callE (aliveT_c _ hs1 (by omega)) Try.call19 rfl rfl) ?_
  rintro _ w2 ⟨v2, rfl, hM2, hk2⟩
  have hk2' := hk2.size
  refine X.opw X.wN rfl (X.move rfl) ?_
  refine X.opw X.wN rfl (X.extr rfl rfl) ?_
  refine X.opw X.wN rfl (X.extr rfl rfl) ?_
  refine X.opw X.wN rfl (X.assign rfl) ?_
  refine X.opw X.wN rfl (X.assign (v := .int .i64 _) rfl) ?_
  refine X.opsEnd ?_
  refine X.seq ?_
  refine X.region ?_
  refine X.opw X.wN rfl (X.move rfl) ?_
  refine X.opE X.wN rfl (X.callE (aliveK_c _ (hs1.keep hk2) (by omega)) Try.call11 rfl rfl) ?_
  rintro _ w3 ⟨v3, rfl, hM3, hk3⟩
  have hk3' := hk3.size
  refine X.opw X.wN rfl (X.move rfl) ?_
  refine X.opw X.wN rfl (X.extr rfl rfl) ?_
  refine X.opw X.wN rfl (X.extr rfl rfl) ?_
  refine X.opw X.wN rfl (X.assign rfl) ?_
  refine X.opw X.wN rfl (X.assign (v := .int .i64 _) rfl) ?_
  refine X.opsEnd ?_
  refine X.seq ?_
  refine X.region ?_
  refine X.opw X.wN rfl (X.move (v := .int .i64 _) rfl) ?_
  refine X.opP X.wN rfl rfl (X.eqI rfl rfl) (fun h20 => ?_) (fun h20 => ?_)
  · refine X.opw X.wN rfl (X.move (v := .bool true) rfl) ?_
    refine X.opw (X.wG rfl rfl rfl) rfl (X.move (v := .int .i64 _) rfl) ?_
    refine X.opP (X.wG rfl rfl rfl) rfl rfl (X.eqI rfl rfl) (fun h23 => ?_) (fun h23 => ?_)
    · refine X.opw X.wN rfl (X.pickT (v := .bool true) rfl rfl) ?_
      refine X.opw X.wN rfl (X.move (v := .bool true) rfl) ?_
      refine X.opw (X.wG rfl rfl rfl) rfl (X.move rfl) ?_
      obtain ⟨A4, c4, rfl, hc4, hs4⟩ := (hM2.keep hk3).slF KB_flat 0 (fun _ _ => Nat.zero_le _)
      refine X.opw (X.wG rfl rfl rfl) rfl (X.str Try.underlying25 Try.underlying5 Try.underlying9 rfl KB_is rfl hs4) ?_
      refine X.opP (X.wG rfl rfl rfl) rfl rfl (X.eqD rfl rfl) (fun h28 => ?_) (fun h28 => ?_)
      · refine X.opw X.wN rfl (X.pickT (v := .bool true) rfl rfl) ?_
        refine X.opw X.wN rfl (X.move (v := .bool true) rfl) ?_
        refine X.opw (X.wG rfl rfl rfl) rfl (X.move rfl) ?_
        obtain ⟨A5, c5, rfl, hc5, hs5⟩ := hM3.slF KB_flat 0 (fun _ _ => Nat.zero_le _)
        refine X.opw (X.wG rfl rfl rfl) rfl (X.str Try.underlying25 Try.underlying5 Try.underlying9 rfl KB_is rfl hs5) ?_
        refine X.opP (X.wG rfl rfl rfl) rfl rfl (X.eqD rfl rfl) (fun h33 => ?_) (fun h33 => ?_)
        · refine X.opw X.wN rfl (X.pickT (v := .bool true) rfl rfl) ?_
          refine X.opw X.wN rfl (X.move (v := .bool true) rfl) ?_
          refine X.opE (X.wG rfl rfl rfl) rfl (X.callE (aliveI_c _) Try.call26 rfl rfl) ?_
          rintro v6 w6 ⟨hM6, hk6⟩
          have hk6' := hk6.size
          obtain ⟨A7, c7, rfl, hc7, hs7⟩ := hM6.slF KB_flat 0 (fun _ _ => Nat.zero_le _)
          refine X.opw (X.wG rfl rfl rfl) rfl (X.str Try.underlying25 Try.underlying5 Try.underlying9 rfl KB_is rfl hs7) ?_
          refine X.opw (X.wG rfl rfl rfl) rfl (X.eqD rfl rfl) ?_
          refine X.opw X.wN rfl (X.pickT (v := .bool _) rfl rfl) ?_
          refine X.opw X.wN rfl (X.assign (v := .bool _) rfl) ?_
          refine X.opsEnd ?_
          refine X.ret1 (v := (.bool _)) Try.func13 Try.results13 rfl ?_
          exact ⟨by congr 1, (((hk1.trans hk2).trans hk3).trans hk6)⟩
        · exact absurd rfl h33
      · exact absurd rfl h28
    · exact absurd rfl h23
  · exact absurd rfl h20
end Go.Proofs.Ytaclpphhidlgpaa
