/- Frames there and back: the plain law. -/
import Derived.Test.YtleaidgngkfjbaaDoorCrcX
import Derived.Test.YtleaidgngkfjbaaDoorXTrio
namespace Go.Proofs.YtleaidgngkfjbaaDoor
open Go Go.Proofs.YtleaidgngkfjbaaDoor.X
set_option linter.unusedVariables false
set_option linter.unusedSimpArgs false

def FC (k : UInt8) (l : List UInt8) : List UInt8 := sealC (k :: lowC (BitVec.ofNat 32 l.length)) ++ sealC l
theorem FC_len (k : UInt8) (l : List UInt8) : (FC k l).length = l.length + 13 := by
  rw [FC, List.length_append, seal_len, seal_len]; show 5 + 4 + (l.length + 4) = _; omega
theorem frame_eq (k : UInt8) {l : List UInt8} (h : l.length ≤ 1048576) : frameC k l = (0, FC k l) := by
  rw [frameC, if_neg (by omega)]; rfl
theorem hd_len (k : UInt8) (l : List UInt8) : (sealC (k :: lowC (BitVec.ofNat 32 l.length))).length = 9 := by rw [seal_len]; rfl
theorem FC_take9 (k : UInt8) (l r : List UInt8) : (FC k l ++ r).take 9 = sealC (k :: lowC (BitVec.ofNat 32 l.length)) := by
  rw [FC, List.append_assoc, ← hd_len k l, List.take_left]
theorem FC_head {k : UInt8} {l m : List UInt8} (hl : l.length ≤ 1048576) (hm : m.take 9 = sealC (k :: lowC (BitVec.ofNat 32 l.length))) : openC (m.take 9) = (0, k :: lowC (BitVec.ofNat 32 l.length)) ∧ headN m = l.length := by
  have h1 : openC (m.take 9) = (0, k :: lowC (BitVec.ofNat 32 l.length)) := by rw [hm, open_seal]
  refine ⟨h1, ?_⟩
  show (numC ((openC (m.take 9)).2.drop 1)).toNat = _
  rw [h1]
  show (numC (lowC _)).toNat = _
  rw [num_low, BitVec.toNat_ofNat]; omega
theorem unf_frame (k : UInt8) (l r : List UInt8) (hl : l.length ≤ 1048576) : unframeC (FC k l ++ r) = (0, k, l, ((FC k l).length : Int)) := by
  obtain ⟨h1, h2⟩ := FC_head (m := FC k l ++ r) hl (FC_take9 k l r)
  have h3 : ((FC k l ++ r).take (l.length + 13)).drop 9 = sealC l := by
    rw [← FC_len k l, List.take_left, FC, ← hd_len k l, List.drop_left]
  have hL : (FC k l ++ r).length = l.length + 13 + r.length := by rw [List.length_append, FC_len]
  rw [unframeC, if_neg (by omega), h1, h2, if_neg (fun h => h.elim (fun h => h rfl) (fun h => by omega)), if_neg (by omega), h3, open_seal, if_neg (by simp), FC_len]
  simp
theorem unf_short (k : UInt8) (l r : List UInt8) (hl : l.length ≤ 1048576) {m : Nat} (hm : m < (FC k l).length) : (unframeC ((FC k l ++ r).take m)).1 ≠ 0 := by
  have hL : ((FC k l ++ r).take m).length = m := by rw [List.length_take, List.length_append]; omega
  rw [FC_len] at hm
  by_cases h9 : m < 9
  · rw [unframeC, if_pos (by omega)]; decide
  · have ht : ((FC k l ++ r).take m).take 9 = sealC (k :: lowC (BitVec.ofNat 32 l.length)) := by
      rw [List.take_take, show min 9 m = 9 by omega, FC_take9]
    obtain ⟨h1, h2⟩ := FC_head hl ht
    rw [unframeC, if_neg (by omega), h1, h2, if_neg (fun h => h.elim (fun h => h rfl) (fun h => by omega)), if_pos (by omega)]; decide
def flatC (ps : List PCE) : List UInt8 := (ps.map fun p => FC p.1 p.2).flatten
def endsC (ps : List PCE) : List Nat := (List.range ps.length).map fun j => (flatC (ps.take (j + 1))).length
theorem flatC_snoc (ps : List PCE) (p : PCE) : flatC (ps ++ [p]) = flatC ps ++ FC p.1 p.2 := by simp [flatC]
theorem flatC_cons (ps : List PCE) (p : PCE) : flatC (p :: ps) = FC p.1 p.2 ++ flatC ps := by simp [flatC]
theorem endsC_len (ps : List PCE) : (endsC ps).length = ps.length := by simp [endsC]
theorem endsC_snoc (ps : List PCE) (p : PCE) : endsC (ps ++ [p]) = endsC ps ++ [(flatC (ps ++ [p])).length] := by
  simp only [endsC, List.length_append, List.length_cons, List.length_nil, Nat.zero_add, List.range_succ, List.map_append, List.map_cons, List.map_nil]
  congr 1
  · apply List.map_congr_left
    intro j hj
    have hj := List.mem_range.1 hj
    rw [List.take_append_of_le_length (by omega)]
  · rw [List.take_of_length_le (by simp)]
theorem endsC_at {ps : List PCE} {j : Nat} (h : j < ps.length) : (endsC ps)[j]? = some (flatC (ps.take (j + 1))).length := by
  simp [endsC, h]
def Small (ps : List PCE) : Prop := ∀ p ∈ ps, p.2.length ≤ 300
theorem small_snoc {ps : List PCE} {p : PCE} (h : Small ps) (hp : p.2.length ≤ 300) : Small (ps ++ [p]) := fun q hq => by
  rcases List.mem_append.1 hq with h1 | h1
  · exact h q h1
  · simp at h1; subst h1; exact hp
theorem flatC_le : ∀ {ps : List PCE}, Small ps → (flatC ps).length ≤ 313 * ps.length
  | [], _ => by simp [flatC]
  | p :: ps, h => by
    have h1 := flatC_le (ps := ps) fun q hq => h q (List.mem_cons_of_mem _ hq)
    have h2 := h p (List.mem_cons_self ..)
    rw [flatC_cons, List.length_append, FC_len, List.length_cons]
    omega
theorem scan_nil : scanC [] = ([], 0) := scan_no (by rw [unframeC, if_pos (by simp)]; decide)
theorem scan_flat : ∀ (ps : List PCE) (j k : Nat), Small ps → j ≤ ps.length → (flatC (ps.take j)).length ≤ k → (j = ps.length ∨ k < (flatC (ps.take (j + 1))).length) → scanC ((flatC ps).take k) = (ps.take j, (flatC (ps.take j)).length)
  | [], j, k, _, hj, _, _ => by
    obtain rfl : j = 0 := by simpa using hj
    simp [flatC, scan_nil]
  | p :: ps, 0, k, hs, _, _, h => by
    have hp := hs p (List.mem_cons_self ..)
    rcases h with h | h
    · simp at h
    · rw [flatC_cons]
      simp only [List.take_succ_cons, List.take_zero] at h ⊢
      have : flatC [p] = FC p.1 p.2 := by simp [flatC]
      rw [this] at h
      rw [scan_no (unf_short p.1 p.2 _ (by omega) h)]
      rfl
  | p :: ps, j + 1, k, hs, hj, hk, h => by
    have hp := hs p (List.mem_cons_self ..)
    simp only [List.take_succ_cons, flatC_cons, List.length_append, List.length_cons] at hk h hj ⊢
    have e : (FC p.1 p.2 ++ flatC ps).take k = FC p.1 p.2 ++ (flatC ps).take (k - (FC p.1 p.2).length) := by
      rw [List.take_append, List.take_of_length_le (by omega)]
    have hu := unf_frame p.1 p.2 ((flatC ps).take (k - (FC p.1 p.2).length)) (by omega)
    rw [e, scan_ok (n := (FC p.1 p.2).length) (by rw [hu]) (by rw [hu]), hu, List.drop_left, scan_flat ps j (k - (FC p.1 p.2).length) (fun q hq => hs q (List.mem_cons_of_mem _ hq)) (by omega) (by omega) (by omega)]

/-! ### the functions, at bytes that are no more than 300 -/
theorem Frame0 (k : UInt8) {lo hi : Nat} {A : Option Addr} {n c : Nat} {l : List UInt8} (w : World) (hs : Sl KB lo hi w A n l) (hhi : hi ≤ w.heap.size) (hnc : n ≤ c) (hn : n ≤ 300) (hT : TabOk w) : Ret Tryd.prog 18 #[.agg #[.int .u8 (k.toNat : Int), .slice A n c]] w fun r w' => ∃ A c, r = .tuple #[.slice A (FC k l).length c, .int .i64 0] ∧ (FC k l).length ≤ c ∧ Sl KB 0 w'.heap.size w' A (FC k l).length (FC k l) ∧ Keep w w' := by
  have hl := hs.len
  refine ((Frame_c k w hs hhi hnc (by omega) hT).mono fresh2).mono ?_
  rw [frame_eq k (by omega)]
  rintro r w' ⟨A, c, h1, h2, h3, h4, h5⟩
  exact ⟨A, c, h1, h2, h3, h5⟩
theorem Unframe0 (k : UInt8) {l : List UInt8} {lo hi : Nat} {A : Option Addr} {n c : Nat} (w : World) (hs : Sl KB lo hi w A n (FC k l)) (hl : l.length ≤ 300) (hnc : n ≤ c) (hT : TabOk w) : Ret Tryd.prog 19 #[.slice A n c] w fun r w' => ∃ A c, r = .tuple #[.agg #[.int .u8 (k.toNat : Int), .slice A l.length c], .int .i64 ((FC k l).length : Int), .int .i64 0] ∧ l.length ≤ c ∧ Sl KB 0 w'.heap.size w' A l.length l ∧ Keep w w' := by
  have hq := hs.len
  have hF := FC_len k l
  have hu := unf_frame k l [] (by omega)
  rw [List.append_nil] at hu
  refine ((Unframe_c w hs hnc (by omega) hT).mono fresh3).mono ?_
  rw [hu]
  rintro r w' ⟨A, c, h1, h2, h3, h4, h5⟩
  exact ⟨A, c, h1, h2, h3, h5⟩
theorem Open0 {l : List UInt8} {lo hi : Nat} {A : Option Addr} {n c : Nat} (w : World) (hs : Sl KB lo hi w A n (sealC l)) (hl : l.length ≤ 300) (hnc : n ≤ c) (hT : TabOk w) : Ret Tryd.prog 11 #[.slice A n c] w fun r w' => ∃ A c, r = .tuple #[.slice A l.length c, .int .i64 0] ∧ l.length ≤ c ∧ Sl KB 0 w'.heap.size w' A l.length l ∧ Keep w w' := by
  have hq := hs.len
  have hF := seal_len l
  refine ((Open_c w hs hnc (by omega) hT).mono fresh2).mono ?_
  rw [open_seal]
  rintro r w' ⟨A, c, h1, h2, h3, h4, h5⟩
  exact ⟨A, c, h1, h2, h3, h5⟩
theorem EI : ElemInfo Tryd.prog 3 1 8 := ElemInfo.of (z := .int .i64 0) (by kernel_rfl) rfl rfl rfl
end Go.Proofs.YtleaidgngkfjbaaDoor
