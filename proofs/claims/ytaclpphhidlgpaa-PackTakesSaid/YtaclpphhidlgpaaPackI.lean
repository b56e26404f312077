/- Contracts of package pack and its reference: counted tuples. -/
import Derived.Test.YtaclpphhidlgpaaPackH
namespace Go.Proofs.Ytaclpphhidlgpaa
open Go Go.Proofs.Ytaclpphhidlgpaa.X
set_option linter.unusedVariables false
set_option linter.unusedSimpArgs false

def cntB (l : List VAL) (N : Int) : List UInt8 := tupB l ++ numB (zig N).toNat
theorem tupB_len {lo hi : Nat} {w : World} {A : Option Addr} {n : Nat} {l : List VAL} (h : Sl KV lo hi w A n l) (hT : isT l = true) : (tupB l).length ≤ 9000000 := by
  have h1 := flat_len hT (fun i x hx => KV_ok h i x hx) l.length (Nat.le_refl _)
  have h2 := isT_len hT
  rw [List.take_length] at h1
  rw [tupB, List.length_cons]; omega
-- f22 "pedigree/pack.Counted" params [42] results [25, 26] -> [(ResultVar.tmp 2), (ResultVar.tmp 3)] nfree 0 
theorem Counted_c {lo hi : Nat} {A : Option Addr} {n c : Nat} {l : List VAL} (N : Int) (hN : okI N) (w : World) (hs : Sl KV lo hi w A n l) (hhi : hi ≤ w.heap.size) : Ret Try.prog 22 #[.agg #[.slice A n c, .int .i64 N]] w fun r w' => ∃ v, r = .tuple #[v, .int .i64 (if isT l then 0 else 20)] ∧ FreshB w w' v (if isT l then cntB l N else []) := by
  refine X.enter Try.func22 rfl Try.ntmps22 rfl ?_
  refine X.seq ?_
  refine X.region ?_
  refine X.opE X.wN rfl (X.boxE rfl rfl) ?_
  rintro _ w1 ⟨rfl, hB1, hk1, hz1⟩
  refine X.opw X.wN rfl (X.assign rfl) ?_
  refine X.opw X.wN rfl (X.assign rfl) ?_
  refine X.opsEnd ?_
  refine X.seq ?_
  refine X.region ?_
  refine X.opw X.wN rfl (X.fldB (j := 0) Try.underlying42 rfl rfl Try.sizeOf23 rfl) ?_
  refine X.opw X.wN rfl (X.load1B Try.isAgg23 hB1 rfl rfl) ?_
  refine X.opE X.wN rfl (X.callE (Tuple_c _ (hs.keep hk1) (by omega)) Try.call19 rfl rfl) ?_
  rintro _ w2 ⟨v2, rfl, hM2, hk2⟩
  have hk2' := hk2.size
  refine X.opw X.wN rfl (X.move rfl) ?_
  refine X.opw X.wN rfl (X.extr rfl rfl) ?_
  refine X.opw X.wN rfl (X.extr rfl rfl) ?_
  refine X.opw X.wN rfl (X.assign rfl) ?_
  refine X.opw X.wN rfl (X.assign (v := .int .i64 _) rfl) ?_
  refine X.opsEnd ?_
  refine X.seq ?_
  refine X.seq ?_
  refine X.region ?_
  refine X.opw X.wN rfl (X.move (v := .int .i64 _) rfl) ?_
  refine X.opP X.wN rfl rfl (X.neI rfl rfl) (fun h13 => ?_) (fun h13 => ?_)
  · have hT : ¬ isT l = true := fun e => h13 (if_pos e)
    refine X.opsEnd ?_
    refine X.condT rfl ?_
    refine X.seq ?_
    refine X.region ?_
    refine X.opw X.wN rfl (X.move (v := .int .i64 _) rfl) ?_
    refine X.opw X.wN rfl (X.assign rfl) ?_
    refine X.opw X.wN rfl (X.assign (v := .int .i64 _) rfl) ?_
    refine X.opsEnd ?_
    refine X.ret2 (v2 := (.int .i64 _)) Try.func22 Try.results22 rfl rfl ?_
    exact ⟨_, by rw [if_neg hT], by rw [if_neg hT]; exact (Mine.nil _ _ _ _ _ _), (hk1.trans hk2)⟩
  · have hT := n20 h13
    rw [if_pos hT] at hM2
    have ht := tupB_len hs hT
    have hz := numB_10 _ (zig_ok N hN).2
    refine X.opsEnd ?_
    refine X.condF rfl ?_
    refine X.skip ?_
    refine X.seq ?_
    refine X.region ?_
    refine X.opw X.wN rfl (X.move rfl) ?_
    refine X.opw X.wN rfl (X.fldB (j := 1) Try.underlying42 rfl rfl Try.sizeOf2 rfl) ?_
    refine X.opw X.wN rfl (X.load1B Try.isAgg2 (hB1.keep hk2) rfl rfl) ?_
    refine X.opE X.wN rfl (X.callE (Int_c _ hN _) Try.call26 rfl rfl) ?_
    rintro v3 w3 ⟨hM3, hk3⟩
    have hk3' := hk3.size
    obtain ⟨A4, c4, rfl, hc4, hs4⟩ := hM3.slF KB_flat 0 (fun _ _ => Nat.zero_le _)
    refine X.opE X.wN rfl (X.appE (K := KB) (S := fun k => w.heap.size ≤ k) KB_flat Try.underlying25 E5 rfl rfl (Mine.mono (T := fun k => w.heap.size ≤ k) (hM2.keep hk3) (fun k h1 h2 => by (try simp only [] at *); omega)) hs4 (by (try simp only [List.length_append, List.length_cons, List.length_nil, List.length_take, List.length_drop, List.length_map, List.length_range]); omega) (by intros; (try simp only [] at *); omega)) ?_
    rintro v5 w5 ⟨hM5, hx5⟩
    have hx5' := hx5.size
    refine X.opw X.wN rfl (X.assign rfl) ?_
    refine X.opw X.wN rfl (X.assign rfl) ?_
    refine X.opsEnd ?_
    refine X.ret2 (v2 := (.int .i64 _)) Try.func22 Try.results22 rfl rfl ?_
    exact ⟨_, by rw [if_pos hT], by rw [if_pos hT]; exact hM5, (((hk1.trans hk2).trans hk3).step hx5 (by intros; (try simp only [] at *); omega))⟩
-- f23 "pedigree/pedigreeref03.Counted" params [42] results [25, 3] -> [(ResultVar.tmp 2), (ResultVar.tmp 3)] 
theorem RCounted_c {lo hi : Nat} {A : Option Addr} {n c : Nat} {l : List VAL} (N : Int) (hN : okI N) (w : World) (hs : Sl KV lo hi w A n l) (hhi : hi ≤ w.heap.size) : Ret Try.prog 23 #[.agg #[.slice A n c, .int .i64 N]] w fun r w' => ∃ v, r = .tuple #[v, .int .i64 (if isT l then 0 else 20)] ∧ FreshB w w' v (if isT l then cntB l N else []) := by
  refine X.enter Try.func23 rfl Try.ntmps23 rfl ?_
  refine X.seq ?_
  refine X.region ?_
  refine X.opE X.wN rfl (X.boxE rfl rfl) ?_
  rintro _ w1 ⟨rfl, hB1, hk1, hz1⟩
  refine X.opw X.wN rfl (X.assign rfl) ?_
  refine X.opw X.wN rfl (X.assign rfl) ?_
  refine X.opsEnd ?_
  refine X.seq ?_
  refine X.region ?_
  refine X.opw X.wN rfl (X.fldB (j := 0) Try.underlying42 rfl rfl Try.sizeOf23 rfl) ?_
  refine X.opw X.wN rfl (X.load1B Try.isAgg23 hB1 rfl rfl) ?_
  refine X.opE X.wN rfl (X.callE (RTuple_c _ (hs.keep hk1) (by omega)) Try.call21 rfl rfl) ?_
  rintro _ w2 ⟨v2, rfl, hM2, hk2⟩
  have hk2' := hk2.size
  refine X.opw X.wN rfl (X.move rfl) ?_
  refine X.opw X.wN rfl (X.extr rfl rfl) ?_
  refine X.opw X.wN rfl (X.extr rfl rfl) ?_
  refine X.opw X.wN rfl (X.assign rfl) ?_
  refine X.opw X.wN rfl (X.assign (v := .int .i64 _) rfl) ?_
  refine X.opsEnd ?_
  refine X.seq ?_
  refine X.seq ?_
  refine X.region ?_
  refine X.opw X.wN rfl (X.move (v := .int .i64 _) rfl) ?_
  refine X.opP X.wN rfl rfl (X.neI rfl rfl) (fun h13 => ?_) (fun h13 => ?_)
  · have hT : ¬ isT l = true := fun e => h13 (if_pos e)
    refine X.opsEnd ?_
    refine X.condT rfl ?_
    refine X.seq ?_
    refine X.region ?_
    refine X.opw X.wN rfl (X.move (v := .int .i64 _) rfl) ?_
    refine X.opw X.wN rfl (X.assign rfl) ?_
    refine X.opw X.wN rfl (X.assign (v := .int .i64 _) rfl) ?_
    refine X.opsEnd ?_
    refine X.ret2 (v2 := (.int .i64 _)) Try.func23 Try.results23 rfl rfl ?_
    exact ⟨_, by rw [if_neg hT], by rw [if_neg hT]; exact (Mine.nil _ _ _ _ _ _), (hk1.trans hk2)⟩
  · have hT := n20 h13
    rw [if_pos hT] at hM2
    have ht := tupB_len hs hT
    have hz := numB_10 _ (zig_ok N hN).2
    refine X.opsEnd ?_
    refine X.condF rfl ?_
    refine X.skip ?_
    refine X.seq ?_
    refine X.region ?_
    refine X.opw X.wN rfl (X.move rfl) ?_
    refine X.opw X.wN rfl (X.fldB (j := 1) Try.underlying42 rfl rfl Try.sizeOf2 rfl) ?_
    refine X.opw X.wN rfl (X.load1B Try.isAgg2 (hB1.keep hk2) rfl rfl) ?_
    refine X.opE X.wN rfl (X.callE (RInt_c _ hN _) Try.call27 rfl rfl) ?_
    rintro v3 w3 ⟨hM3, hk3⟩
    have hk3' := hk3.size
    obtain ⟨A4, c4, rfl, hc4, hs4⟩ := hM3.slF KB_flat 0 (fun _ _ => Nat.zero_le _)
    refine X.opE X.wN rfl (X.appE (K := KB) (S := fun k => w.heap.size ≤ k) KB_flat Try.underlying25 E5 rfl rfl (Mine.mono (T := fun k => w.heap.size ≤ k) (hM2.keep hk3) (fun k h1 h2 => by (try simp only [] at *); omega)) hs4 (by (try simp only [List.length_append, List.length_cons, List.length_nil, List.length_take, List.length_drop, List.length_map, List.length_range]); omega) (by intros; (try simp only [] at *); omega)) ?_
    rintro v5 w5 ⟨hM5, hx5⟩
    have hx5' := hx5.size
    refine X.opw X.wN rfl (X.assign rfl) ?_
    refine X.opw X.wN rfl (X.assign rfl) ?_
    refine X.opsEnd ?_
    refine X.ret2 (v2 := (.int .i64 _)) Try.func23 Try.results23 rfl rfl ?_
    exact ⟨_, by rw [if_pos hT], by rw [if_pos hT]; exact hM5, (((hk1.trans hk2).trans hk3).step hx5 (by intros; (try simp only [] at *); omega))⟩
end Go.Proofs.Ytaclpphhidlgpaa
