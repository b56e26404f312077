/- The adder; what shows that the package answers at all. -/
import Derived.Test.YtleaidgngkfjbaaDoorCrcF
namespace Go.Proofs.YtleaidgngkfjbaaDoor
open Go Go.Proofs.YtleaidgngkfjbaaDoor.X
set_option linter.unusedVariables false
set_option linter.unusedSimpArgs false

theorem moreC_app (r : R32) (a b : List UInt8) : moreC r (a ++ b) = moreC (moreC r a) b := List.foldl_append
def addC (r : R32) (n : Int) (m : Bool) : List Value := [.int .u32 (r.toNat : Int), .int .i64 n, .bool m]
-- f20 "pedigree/crc.New" params [] results [39] -> [(ResultVar.tmp 0)] nfree 0 ntmps 3 names ["", "", ""]
set_option maxHeartbeats 4000000 in
set_option maxRecDepth 100000 in
theorem New_c (w : World) : Ret Tryd.prog 20 #[] w fun v w' => v = .pointer (some ⟨w.heap.size, 0, none⟩) ∧ Blk w' w.heap.size (addC (BitVec.ofNat 32 4294967295) 0 true) 45 ∧ Keep w w' ∧ w'.heap.size = w.heap.size + 1 := by
  refine X.enter Tryd.func20 rfl Tryd.ntmps20 rfl ?_
  refine X.seq ?_
  refine X.region ?_
  refine X.opw X.wN rfl (X.assign rfl) ?_
  refine X.opsEnd ?_
  refine X.seq ?_
  refine X.region ?_
  refine X.opw X.wN rfl (X.buildB (vs := [(0, .int .u32 4294967295), (2, .bool true)]) (cs := #[.int .u32 4294967295, .int .i64 0, .bool true]) rfl (by kernel_rfl)) ?_
  refine X.opE X.wN rfl (X.boxE rfl rfl) ?_
  rintro _ w1 ⟨rfl, hB1, hk1, hz1⟩
  refine X.opw X.wN rfl (X.assign rfl) ?_
  refine X.opsEnd ?_
  refine X.ret1 Tryd.func20 Tryd.results20 rfl ?_
  exact ⟨rfl, hB1, hk1, by omega⟩
-- f40 "(*pedigree/crc.Adder).is" params [39] results [4] -> [(ResultVar.tmp 2)] nfree 0 ntmps 11 names ["a", 
set_option maxHeartbeats 4000000 in
set_option maxRecDepth 100000 in
theorem is_c (r : R32) (N : Int) (m : Bool) (b : Nat) (w : World) (hB : Blk w b (addC r N m) 45) : Ret Tryd.prog 40 #[.pointer (some ⟨b, 0, none⟩)] w fun v w' => v = .bool m ∧ Keep w w' := by
  refine X.enter Tryd.func40 rfl Tryd.ntmps40 rfl ?_
  refine X.seq ?_
  refine X.region ?_
  refine X.opw X.wN rfl (X.assign rfl) ?_
  refine X.opsEnd ?_
  refine X.seq ?_
  refine X.region ?_
  refine X.opw X.wN rfl (X.move rfl) ?_
  refine X.opB X.wN rfl rfl (X.nePtrN Tryd.underlying39 rfl rfl) (fun h4 => ?_) (fun h4 => ?_)
  · refine X.opw X.wN rfl (X.move (v := .bool true) rfl) ?_
    refine X.opw (X.wG rfl rfl rfl) rfl (X.move rfl) ?_
    refine X.opw (X.wG rfl rfl rfl) rfl (X.nilCk rfl) ?_
    refine X.opw (X.wG rfl rfl rfl) rfl (X.fldB (j := 2) Tryd.underlying45 rfl rfl Tryd.sizeOf4 rfl) ?_
    refine X.opw (X.wG rfl rfl rfl) rfl (X.load1B Tryd.isAgg4 hB rfl rfl) ?_
    refine X.opw X.wN rfl (X.pickT (v := .bool _) rfl rfl) ?_
    refine X.opw X.wN rfl (X.assign (v := .bool _) rfl) ?_
    refine X.opsEnd ?_
    refine X.ret1 (v := (.bool _)) Tryd.func40 Tryd.results40 rfl ?_
    exact ⟨rfl, (Keep.refl _)⟩
  · cases h4
-- f40 "(*pedigree/crc.Adder).is" params [39] results [4] -> [(ResultVar.tmp 2)] nfree 0 ntmps 11 names ["a", 
set_option maxHeartbeats 4000000 in
set_option maxRecDepth 100000 in
theorem isN_c (w : World) : Ret Tryd.prog 40 #[.pointer none] w fun v w' => v = .bool false ∧ Keep w w' := by
  refine X.enter Tryd.func40 rfl Tryd.ntmps40 rfl ?_
  refine X.seq ?_
  refine X.region ?_
  refine X.opw X.wN rfl (X.assign rfl) ?_
  refine X.opsEnd ?_
  refine X.seq ?_
  refine X.region ?_
  refine X.opw X.wN rfl (X.move rfl) ?_
  refine X.opB X.wN rfl rfl (X.nePtrN Tryd.underlying39 rfl rfl) (fun h4 => ?_) (fun h4 => ?_)
  · cases h4
  · refine X.opw X.wN rfl (X.move (v := .bool false) rfl) ?_
    refine X.opS rfl rfl rfl rfl rfl ?_
    refine X.opS rfl rfl rfl rfl rfl ?_
    refine X.opS rfl rfl rfl rfl rfl ?_
    refine X.opS rfl rfl rfl rfl rfl ?_
    refine X.opw X.wN rfl (X.pickF (v := .bool false) rfl rfl) ?_
    refine X.opw X.wN rfl (X.assign (v := .bool false) rfl) ?_
    refine X.opsEnd ?_
    refine X.ret1 (v := (.bool _)) Tryd.func40 Tryd.results40 rfl ?_
    exact ⟨rfl, (Keep.refl _)⟩
-- f22 "(*pedigree/crc.Adder).Sum" params [39] results [27] -> [(ResultVar.tmp 2)] nfree 0 ntmps 11 names ["a"
set_option maxHeartbeats 4000000 in
set_option maxRecDepth 100000 in
theorem ASum_c (r : R32) (N : Int) (b : Nat) (w : World) (hB : Blk w b (addC r N true) 45) : Ret Tryd.prog 22 #[.pointer (some ⟨b, 0, none⟩)] w fun v w' => v = .int .u32 ((~~~r).toNat : Int) ∧ Keep w w' := by
  refine X.enter Tryd.func22 rfl Tryd.ntmps22 rfl ?_
  refine X.seq ?_
  refine X.region ?_
  refine X.opw X.wN rfl (X.assign rfl) ?_
  refine X.opsEnd ?_
  refine X.seq ?_
  refine X.seq ?_
  refine X.region ?_
  refine X.opw X.wN rfl (X.move rfl) ?_
  refine X.opE X.wN rfl (X.callE (is_c r N true _ _ hB) Tryd.call40 rfl rfl) ?_
  rintro _ w1 ⟨rfl, hk1⟩
  have hk1' := hk1.size
  refine X.opw X.wN rfl (X.not_ rfl) ?_
  refine X.opsEnd ?_
  refine X.condB rfl (fun hc => ?_) (fun hc => ?_)
  · cases hc
  · refine X.skip ?_
    refine X.seq ?_
    refine X.region ?_
    refine X.opw X.wN rfl (X.move rfl) ?_
    refine X.opw X.wN rfl (X.nilCk rfl) ?_
    refine X.opw X.wN rfl (X.fldB (j := 0) Tryd.underlying45 rfl rfl Tryd.sizeOf27 rfl) ?_
    refine X.opw X.wN rfl (X.load1B Tryd.isAgg27 (hB.keep hk1) rfl rfl) ?_
    refine X.opw X.wN rfl (X.com rfl (com32 _)) ?_
    refine X.opw X.wN rfl (X.assign (v := .int .u32 _) rfl) ?_
    refine X.opsEnd ?_
    refine X.ret1 (v := (.int .u32 _)) Tryd.func22 Tryd.results22 rfl ?_
    exact ⟨rfl, hk1⟩
-- f22 "(*pedigree/crc.Adder).Sum" params [39] results [27] -> [(ResultVar.tmp 2)] nfree 0 ntmps 11 names ["a"
set_option maxHeartbeats 4000000 in
set_option maxRecDepth 100000 in
theorem ASumF_c (r : R32) (N : Int) (b : Nat) (w : World) (hB : Blk w b (addC r N false) 45) : Ret Tryd.prog 22 #[.pointer (some ⟨b, 0, none⟩)] w fun v w' => v = .int .u32 0 ∧ Keep w w' := by
  refine X.enter Tryd.func22 rfl Tryd.ntmps22 rfl ?_
  refine X.seq ?_
  refine X.region ?_
  refine X.opw X.wN rfl (X.assign rfl) ?_
  refine X.opsEnd ?_
  refine X.seq ?_
  refine X.seq ?_
  refine X.region ?_
  refine X.opw X.wN rfl (X.move rfl) ?_
  refine X.opE X.wN rfl (X.callE (is_c r N false _ _ hB) Tryd.call40 rfl rfl) ?_
  rintro _ w1 ⟨rfl, hk1⟩
  have hk1' := hk1.size
  refine X.opw X.wN rfl (X.not_ rfl) ?_
  refine X.opsEnd ?_
  refine X.condB rfl (fun hc => ?_) (fun hc => ?_)
  · refine X.seq ?_
    refine X.region ?_
    refine X.opw X.wN rfl (X.assign rfl) ?_
    refine X.opsEnd ?_
    refine X.ret1 (v := (.int .u32 _)) Tryd.func22 Tryd.results22 rfl ?_
    exact ⟨rfl, hk1⟩
  · cases hc
-- f22 "(*pedigree/crc.Adder).Sum" params [39] results [27] -> [(ResultVar.tmp 2)] nfree 0 ntmps 11 names ["a"
set_option maxHeartbeats 4000000 in
set_option maxRecDepth 100000 in
theorem ASumN_c (w : World) : Ret Tryd.prog 22 #[.pointer none] w fun v w' => v = .int .u32 0 ∧ Keep w w' := by
  refine X.enter Tryd.func22 rfl Tryd.ntmps22 rfl ?_
  refine X.seq ?_
  refine X.region ?_
  refine X.opw X.wN rfl (X.assign rfl) ?_
  refine X.opsEnd ?_
  refine X.seq ?_
  refine X.seq ?_
  refine X.region ?_
  refine X.opw X.wN rfl (X.move rfl) ?_
  refine X.opE X.wN rfl (X.callE (isN_c _) Tryd.call40 rfl rfl) ?_
  rintro _ w1 ⟨rfl, hk1⟩
  have hk1' := hk1.size
  refine X.opw X.wN rfl (X.not_ rfl) ?_
  refine X.opsEnd ?_
  refine X.condB rfl (fun hc => ?_) (fun hc => ?_)
  · refine X.seq ?_
    refine X.region ?_
    refine X.opw X.wN rfl (X.assign rfl) ?_
    refine X.opsEnd ?_
    refine X.ret1 (v := (.int .u32 _)) Tryd.func22 Tryd.results22 rfl ?_
    exact ⟨rfl, hk1⟩
  · cases hc
-- f23 "(*pedigree/crc.Adder).Len" params [39] results [3] -> [(ResultVar.tmp 2)] nfree 0 ntmps 10 names ["a",
set_option maxHeartbeats 4000000 in
set_option maxRecDepth 100000 in
theorem ALen_c (r : R32) (N : Int) (b : Nat) (w : World) (hB : Blk w b (addC r N true) 45) : Ret Tryd.prog 23 #[.pointer (some ⟨b, 0, none⟩)] w fun v w' => v = .int .i64 N ∧ Keep w w' := by
  refine X.enter Tryd.func23 rfl Tryd.ntmps23 rfl ?_
  refine X.seq ?_
  refine X.region ?_
  refine X.opw X.wN rfl (X.assign rfl) ?_
  refine X.opsEnd ?_
  refine X.seq ?_
  refine X.seq ?_
  refine X.region ?_
  refine X.opw X.wN rfl (X.move rfl) ?_
  refine X.opE X.wN rfl (X.callE (is_c r N true _ _ hB) Tryd.call40 rfl rfl) ?_
  rintro _ w1 ⟨rfl, hk1⟩
  have hk1' := hk1.size
  refine X.opw X.wN rfl (X.not_ rfl) ?_
  refine X.opsEnd ?_
  refine X.condB rfl (fun hc => ?_) (fun hc => ?_)
  · cases hc
  · refine X.skip ?_
    refine X.seq ?_
    refine X.region ?_
    refine X.opw X.wN rfl (X.move rfl) ?_
    refine X.opw X.wN rfl (X.nilCk rfl) ?_
    refine X.opw X.wN rfl (X.fldB (j := 1) Tryd.underlying45 rfl rfl Tryd.sizeOf3 rfl) ?_
    refine X.opw X.wN rfl (X.load1B Tryd.isAgg3 (hB.keep hk1) rfl rfl) ?_
    refine X.opw X.wN rfl (X.assign (v := .int .i64 _) rfl) ?_
    refine X.opsEnd ?_
    refine X.ret1 (v := (.int .i64 _)) Tryd.func23 Tryd.results23 rfl ?_
    exact ⟨rfl, hk1⟩
-- f23 "(*pedigree/crc.Adder).Len" params [39] results [3] -> [(ResultVar.tmp 2)] nfree 0 ntmps 10 names ["a",
set_option maxHeartbeats 4000000 in
set_option maxRecDepth 100000 in
theorem ALenF_c (r : R32) (N : Int) (b : Nat) (w : World) (hB : Blk w b (addC r N false) 45) : Ret Tryd.prog 23 #[.pointer (some ⟨b, 0, none⟩)] w fun v w' => v = .int .i64 0 ∧ Keep w w' := by
  refine X.enter Tryd.func23 rfl Tryd.ntmps23 rfl ?_
  refine X.seq ?_
  refine X.region ?_
  refine X.opw X.wN rfl (X.assign rfl) ?_
  refine X.opsEnd ?_
  refine X.seq ?_
  refine X.seq ?_
  refine X.region ?_
  refine X.opw X.wN rfl (X.move rfl) ?_
  refine X.opE X.wN rfl (X.callE (is_c r N false _ _ hB) Tryd.call40 rfl rfl) ?_
  rintro _ w1 ⟨rfl, hk1⟩
  have hk1' := hk1.size
  refine X.opw X.wN rfl (X.not_ rfl) ?_
  refine X.opsEnd ?_
  refine X.condB rfl (fun hc => ?_) (fun hc => ?_)
  · refine X.seq ?_
    refine X.region ?_
    refine X.opw X.wN rfl (X.assign rfl) ?_
    refine X.opsEnd ?_
    refine X.ret1 (v := (.int .i64 _)) Tryd.func23 Tryd.results23 rfl ?_
    exact ⟨rfl, hk1⟩
  · cases hc
-- f23 "(*pedigree/crc.Adder).Len" params [39] results [3] -> [(ResultVar.tmp 2)] nfree 0 ntmps 10 names ["a",
set_option maxHeartbeats 4000000 in
set_option maxRecDepth 100000 in
theorem ALenN_c (w : World) : Ret Tryd.prog 23 #[.pointer none] w fun v w' => v = .int .i64 0 ∧ Keep w w' := by
  refine X.enter Tryd.func23 rfl Tryd.ntmps23 rfl ?_
  refine X.seq ?_
  refine X.region ?_
  refine X.opw X.wN rfl (X.assign rfl) ?_
  refine X.opsEnd ?_
  refine X.seq ?_
  refine X.seq ?_
  refine X.region ?_
  refine X.opw X.wN rfl (X.move rfl) ?_
  refine X.opE X.wN rfl (X.callE (isN_c _) Tryd.call40 rfl rfl) ?_
  rintro _ w1 ⟨rfl, hk1⟩
  have hk1' := hk1.size
  refine X.opw X.wN rfl (X.not_ rfl) ?_
  refine X.opsEnd ?_
  refine X.condB rfl (fun hc => ?_) (fun hc => ?_)
  · refine X.seq ?_
    refine X.region ?_
    refine X.opw X.wN rfl (X.assign rfl) ?_
    refine X.opsEnd ?_
    refine X.ret1 (v := (.int .i64 _)) Tryd.func23 Tryd.results23 rfl ?_
    exact ⟨rfl, hk1⟩
  · cases hc
-- f21 "(*pedigree/crc.Adder).Add" params [39, 38] results [] -> [] nfree 0 ntmps 34 names ["a", "parts", "a",
set_option maxHeartbeats 4000000 in
set_option maxRecDepth 100000 in
theorem Add_c (r : R32) (N : Int) (hN : 0 ≤ N) (b : Nat) {lo hi lo2 hi2 : Nat} {A : Option Addr} {n c : Nat} {vs : List Value} {ls : List (List UInt8)} (w : World) (hB : Blk w b (addC r N true) 45) (hs : Sl KR1 lo hi w A n vs) (hr : SlRows KB lo2 hi2 w vs ls) (h1 : b < lo ∨ hi ≤ b) (h2 : b < lo2 ∨ hi2 ≤ b) (hb0 : 0 < b) (hn : N + ls.flatten.length ≤ 1000000000) (hT : TabOk w) :
    Ret Tryd.prog 21 #[.pointer (some ⟨b, 0, none⟩), .slice A n c] w fun v w' => v = .tuple #[] ∧ Blk w' b (addC (moreC r ls.flatten) (N + (ls.flatten.length : Int)) true) 45 ∧ Ext (fun k => k = b) w w' := by
  have hl := hs.len
  have hll := hr.len
  have hbd := hs.bound
  refine X.enter Tryd.func21 rfl Tryd.ntmps21 rfl ?_
  refine X.seq ?_
  refine X.seq ?_
  refine X.region ?_
  refine X.opw X.wN rfl (X.move rfl) ?_
  refine X.opE X.wN rfl (X.callE (is_c r N true _ _ hB) Tryd.call40 rfl rfl) ?_
  rintro _ w1 ⟨rfl, hk1⟩
  have hk1' := hk1.size
  refine X.opw X.wN rfl (X.not_ rfl) ?_
  refine X.opsEnd ?_
  refine X.condB rfl (fun hc => ?_) (fun hc => ?_)
  · cases hc
  · refine X.skip ?_
    refine X.seq ?_
    refine X.region ?_
    refine X.opw X.wN rfl (X.move (v := .slice _ _ _) rfl) ?_
    refine X.opw X.wN rfl (X.lenSl Tryd.underlying38 rfl) ?_
    refine X.opw X.wN rfl (X.move rfl) ?_
    refine X.opsEnd ?_
    refine X.block ?_
    -- LOOP live: 0=a, 9, 10, 11*
    refine X.loopL (σ := Nat) (fun s => [(0, .pointer (some ⟨b, 0, none⟩)), (9, .slice A n c), (10, .int .i64 (n : Int)), (11, .int .i64 (s : Int))]) (fun s w' => s ≤ n ∧ Blk w' b (addC (moreC r (ls.take s).flatten) (N + ((ls.take s).flatten.length : Int)) true) 45 ∧ Ext (fun k => k = b) w w') (fun s => n - s) 0 ⟨rfl, rfl, rfl, rfl, trivial⟩ ⟨by simp, by simpa [moreC] using (hB.keep hk1), (Ext.andThen (Ext.refl (fun k => k = b) _) hk1 (by intro k h1 h2; first | exact h2.elim | omega | (simp only [] at *; omega)))⟩ ?_
    rintro i b0 wl ⟨hi0, hB1, hk⟩ hback
    refine X.seq ?_
    refine X.region ?_
    refine X.opP X.wN rfl rfl (X.lss rfl rfl) (fun h12 => ?_) (fun h12 => ?_)
    · obtain ⟨y, hx⟩ := getN i hl h12
      obtain ⟨x, A1, n1, c1, hy2, rfl, hc1, hs1⟩ := hr.get hx
      have hfl := flat_le hy2
      have hs1l := hs1.len
      refine X.opsEnd ?_
      refine X.seq ?_
      refine X.condT rfl ?_
      refine X.skip ?_
      refine X.seq ?_
      refine X.block ?_
      refine X.seq ?_
      refine X.region ?_
      refine X.opw X.wN rfl (X.idxS (hs.ext hk (by intros; (try simp only []); omega)) Tryd.underlying38 Tryd.sizeOf22 rfl rfl ⟨by omega, by omega⟩) ?_
      refine X.opw X.wN rfl (X.loadS Tryd.isAgg22 (hs.ext hk (by intros; (try simp only []); omega)) hx rfl (fun _ h => by rw [h.1]; rfl)) ?_
      refine X.opw X.wN rfl (X.assign (v := .slice _ _ _) rfl) ?_
      refine X.opsEnd ?_
      refine X.seq ?_
      refine X.region ?_
      refine X.opw X.wN rfl (X.move rfl) ?_
      refine X.opw X.wN rfl (X.move rfl) ?_
      refine X.opw X.wN rfl (X.nilCk rfl) ?_
      refine X.opw X.wN rfl (X.fldB (j := 0) Tryd.underlying45 rfl rfl Tryd.sizeOf27 rfl) ?_
      refine X.opw X.wN rfl (X.load1B Tryd.isAgg27 hB1 rfl rfl) ?_
      refine X.opw X.wN rfl (X.move (v := .slice _ _ _) rfl) ?_
      refine X.opE X.wN rfl (X.callE (more_c (moreC r (ls.take i).flatten) _ (hs1.ext hk (by intros; (try simp only []); omega)) (hT.ext (Ext.andThen (Ext.refl (fun k => k = b) _) hk (by intro k h1 h2; first | exact h2.elim | omega | (simp only [] at *; omega))) (by (try simp only []); omega))) Tryd.call35 rfl rfl) ?_
      rintro _ w2 ⟨rfl, hk2⟩
      have hk2' := hk2.size
      refine X.opw X.wN rfl (X.nilCk rfl) ?_
      refine X.opw X.wN rfl (X.fldB (j := 0) Tryd.underlying45 rfl rfl Tryd.sizeOf27 rfl) ?_
      refine X.opE X.wN rfl (X.storeE Tryd.sizeOf27 (hB1.keep hk2) rfl rfl rfl rfl) ?_
      rintro _ w3 ⟨hB3, hx3, hz3⟩
      refine X.opsEnd ?_
      refine X.region ?_
      refine X.opw X.wN rfl (X.move rfl) ?_
      refine X.opw X.wN rfl (X.nilCk rfl) ?_
      refine X.opw X.wN rfl (X.fldB (j := 1) Tryd.underlying45 rfl rfl Tryd.sizeOf3 rfl) ?_
      refine X.opw X.wN rfl (X.load1B Tryd.isAgg3 hB3 rfl rfl) ?_
      refine X.opw X.wN rfl (X.move (v := .slice _ _ _) rfl) ?_
      refine X.opw X.wN rfl (X.lenSl Tryd.underlying22 rfl) ?_
      refine X.opw X.wN rfl (X.add (c := N + (((ls.take (i + 1)).flatten.length : Nat) : Int)) rfl rfl (by rw [flat_at hy2, List.length_append, X.w_i64 (by omega)]; omega)) ?_
      refine X.opw X.wN rfl (X.nilCk rfl) ?_
      refine X.opw X.wN rfl (X.fldB (j := 1) Tryd.underlying45 rfl rfl Tryd.sizeOf3 rfl) ?_
      refine X.opE X.wN rfl (X.storeE Tryd.sizeOf3 hB3 rfl rfl rfl rfl) ?_
      rintro _ w4 ⟨hB4, hx4, hz4⟩
      refine X.opsEnd ?_
      refine X.inBlock ?_
      refine X.region ?_
      refine X.opw X.wN rfl (X.add rfl rfl (X.w_i64 (by omega))) ?_
      refine X.opw X.wN rfl (X.move (v := .int .i64 _) rfl) ?_
      refine X.opsEnd ?_
      refine hback (i + 1) _ _ ⟨rfl, rfl, rfl, rfl, trivial⟩ ⟨by omega, by rw [flat_at hy2, moreC_app, ← flat_at hy2]; exact hB4, (Ext.andThen (Ext.andThen (Ext.andThen (Ext.andThen (Ext.refl (fun k => k = b) _) hk (by intro k h1 h2; first | exact h2.elim | omega | (simp only [] at *; omega))) hk2 (by intro k h1 h2; first | exact h2.elim | omega | (simp only [] at *; omega))) hx3 (by intro k h1 h2; first | exact h2.elim | omega | (simp only [] at *; omega))) hx4 (by intro k h1 h2; first | exact h2.elim | omega | (simp only [] at *; omega)))⟩ (by omega)
    · refine X.opsEnd ?_
      refine X.seq ?_
      refine X.condF rfl ?_
      refine X.exit rfl ?_
      refine X.end0 Tryd.func21 Tryd.results21 ?_
      refine ⟨rfl, ?_, (Ext.andThen (Ext.refl (fun k => k = b) _) hk (by intro k h1 h2; first | exact h2.elim | omega | (simp only [] at *; omega)))⟩
      rw [List.take_of_length_le (by omega)] at hB1
      exact hB1
end Go.Proofs.YtleaidgngkfjbaaDoor
