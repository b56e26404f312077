/- The plain laws of package pack: the bytes of no number, row or tuple are a beginning of another one's. -/
import Derived.Test.YtaclpphhidlgpaaPackI
namespace Go.Proofs.Ytaclpphhidlgpaa
open Go Go.Proofs.Ytaclpphhidlgpaa.X
set_option linter.unusedSimpArgs false

theorem u8_nat {a b : Nat} (ha : a < 256) (hb : b < 256) (h : UInt8.ofNat a = UInt8.ofNat b) : a = b := by
  have := congrArg UInt8.toNat h
  rw [UInt8.toNat_ofNat', UInt8.toNat_ofNat'] at this
  omega
theorem numB_pre : ∀ (x y : Nat) (s t : List UInt8), numB x ++ s = numB y ++ t → x = y ∧ s = t := by
  intro x
  induction x using Nat.strongRecOn with
  | _ x ih =>
    intro y s t h
    rw [numB.eq_def x, numB.eq_def y] at h
    by_cases hx : x < 128 <;> by_cases hy : y < 128
    · rw [if_pos hx, if_pos hy, List.singleton_append, List.singleton_append, List.cons.injEq] at h
      exact ⟨u8_nat (by omega) (by omega) h.1, h.2⟩
    · rw [if_pos hx, if_neg hy, List.singleton_append, List.cons_append, List.cons.injEq] at h
      have := u8_nat (by omega) (by omega) h.1
      omega
    · rw [if_neg hx, if_pos hy, List.singleton_append, List.cons_append, List.cons.injEq] at h
      have := u8_nat (by omega) (by omega) h.1
      omega
    · rw [if_neg hx, if_neg hy, List.cons_append, List.cons_append, List.cons.injEq] at h
      have h1 := u8_nat (by omega) (by omega) h.1
      obtain ⟨h2, h3⟩ := ih (x / 128) (by omega) (y / 128) s t h.2
      exact ⟨by omega, h3⟩
theorem beg_iff (a b : List UInt8) : begB a b = true ↔ ∃ t, b = a ++ t := by
  unfold begB
  rw [Bool.and_eq_true, decide_eq_true_eq, decide_eq_true_eq]
  constructor
  · rintro ⟨_, h⟩
    exact ⟨b.drop a.length, by conv => lhs; rw [← List.take_append_drop a.length b, h]⟩
  · rintro ⟨t, rfl⟩
    simp
theorem numB_beg (x y : Nat) : begB (numB x) (numB y) = decide (x = y) := by
  rw [Bool.eq_iff_iff, beg_iff, decide_eq_true_eq]
  constructor
  · rintro ⟨t, h⟩
    have : numB y ++ [] = numB x ++ t := by rw [List.append_nil]; exact h
    exact (numB_pre y x [] t this).1.symm
  · rintro rfl; exact ⟨[], by simp⟩
theorem textB_pre (a b s t : List UInt8) (h : textB a ++ s = textB b ++ t) : a = b ∧ s = t := by
  rw [textB, textB, List.append_assoc, List.append_assoc] at h
  obtain ⟨h1, h2⟩ := numB_pre _ _ _ _ h
  exact List.append_inj h2 h1
theorem textB_beg (a b : List UInt8) : begB (textB a) (textB b) = decide (a = b) := by
  rw [Bool.eq_iff_iff, beg_iff, decide_eq_true_eq]
  constructor
  · rintro ⟨t, h⟩
    have : textB b ++ [] = textB a ++ t := by rw [List.append_nil]; exact h
    exact (textB_pre b a [] t this).1.symm
  · rintro rfl; exact ⟨[], by simp⟩
theorem zig_inj {x y : Int} (hx : okI x) (hy : okI y) (h : (zig x).toNat = (zig y).toNat) : x = y := by
  have h1 := zig_ok x hx
  have h2 := zig_ok y hy
  unfold zig at *
  split at h <;> split at h <;> omega
theorem valB_pre {a b : VAL} (ha : isV a = true ∧ okV a) (hb : isV b = true ∧ okV b) (s t : List UInt8) (h : valB a ++ s = valB b ++ t) : a = b ∧ s = t := by
  obtain ⟨k1, n1, s1⟩ := a
  obtain ⟨k2, n2, s2⟩ := b
  rcases isV_cases ha.1 with ⟨h1, h2⟩ | ⟨h1, h2, _⟩ <;> rcases isV_cases hb.1 with ⟨g1, g2⟩ | ⟨g1, g2, _⟩ <;> simp only at h1 h2 g1 g2 <;> subst h1 h2 g1 g2
  · rw [valB, if_pos rfl, valB, if_pos rfl, List.cons_append, List.cons_append, List.cons.injEq] at h
    obtain ⟨q1, q2⟩ := numB_pre _ _ _ _ h.2
    have q3 := zig_inj ha.2.2.1 hb.2.2.1 q1
    dsimp only at q3
    exact ⟨by rw [q3], q2⟩
  · rw [valB, if_pos rfl, valB, if_neg (by simp), List.cons_append, List.cons_append, List.cons.injEq] at h
    exact absurd h.1 (by decide)
  · rw [valB, if_neg (by simp), valB, if_pos rfl, List.cons_append, List.cons_append, List.cons.injEq] at h
    exact absurd h.1 (by decide)
  · rw [valB, if_neg (by simp), valB, if_neg (by simp), List.cons_append, List.cons_append, List.cons.injEq] at h
    obtain ⟨q1, q2⟩ := textB_pre _ _ _ _ h.2
    have q3 : s1 = s2 := sym_ext q1
    subst q3
    exact ⟨rfl, q2⟩
theorem vals_pre : ∀ (l m : List VAL), (∀ v ∈ l, isV v = true ∧ okV v) → (∀ v ∈ m, isV v = true ∧ okV v) → l.length = m.length → ∀ s t : List UInt8, l.flatMap valB ++ s = m.flatMap valB ++ t → l = m ∧ s = t
  | [], [], _, _, _, s, t, h => ⟨rfl, by simpa using h⟩
  | [], _ :: _, _, _, e, _, _, _ => by simp at e
  | _ :: _, [], _, _, e, _, _, _ => by simp at e
  | a :: l, b :: m, hl, hm, e, s, t, h => by
    rw [List.flatMap_cons, List.flatMap_cons, List.append_assoc, List.append_assoc] at h
    obtain ⟨h1, h2⟩ := valB_pre (hl a List.mem_cons_self) (hm b List.mem_cons_self) _ _ h
    obtain ⟨h3, h4⟩ := vals_pre l m (fun v q => hl v (List.mem_cons_of_mem _ q)) (fun v q => hm v (List.mem_cons_of_mem _ q)) (by simpa using e) s t h2
    exact ⟨by rw [h1, h3], h4⟩
theorem tupB_pre {l m : List VAL} (hl : isT l = true) (hm : isT m = true) (ol : ∀ v ∈ l, okV v) (om : ∀ v ∈ m, okV v) (s t : List UInt8) (h : tupB l ++ s = tupB m ++ t) : l = m ∧ s = t := by
  rw [tupB, tupB, List.cons_append, List.cons_append, List.cons.injEq] at h
  have h1 := isT_len hl
  have h2 := isT_len hm
  exact vals_pre l m (fun v q => ⟨isT_all hl v q, ol v q⟩) (fun v q => ⟨isT_all hm v q, om v q⟩) (u8_nat (by omega) (by omega) h.1) s t h.2
theorem cmpT_eq : ∀ l m : List VAL, cmpT l m = 0 ↔ l = m
  | [], [] => by simp [cmpT]
  | [], _ :: _ => by simp [cmpT]
  | _ :: _, [] => by simp [cmpT]
  | a :: l, b :: m => by
    rw [cmpT]
    by_cases e : cmpV a b = 0
    · have := cmpV_0 e
      subst this
      rw [if_neg (by simp [e]), cmpT_eq l m]; simp
    · rw [if_pos e]
      constructor
      · intro h; exact absurd h e
      · intro h
        rw [List.cons.injEq] at h
        rw [h.1] at e
        exact absurd (cmpV_self b) e
theorem tupB_beg {l m : List VAL} (hl : isT l = true) (hm : isT m = true) (ol : ∀ v ∈ l, okV v) (om : ∀ v ∈ m, okV v) : begB (tupB l) (tupB m) = decide (cmpT l m = 0) := by
  rw [Bool.eq_iff_iff, beg_iff, decide_eq_true_eq, cmpT_eq]
  constructor
  · rintro ⟨t, h⟩
    have : tupB m ++ [] = tupB l ++ t := by rw [List.append_nil]; exact h
    exact (tupB_pre hm hl om ol [] t this).1.symm
  · rintro rfl; exact ⟨[], by simp⟩
theorem num_begI {x y : Int} (hx : 0 ≤ x) (hy : 0 ≤ y) : begB (numB x.toNat) (numB y.toNat) = decide (x = y) := by
  rw [numB_beg, decide_eq_decide]; omega
theorem dec_bytes (a b : List UInt8) : decide ((⟨a.toArray⟩ : ByteArray) = ⟨b.toArray⟩) = decide (a = b) := by rw [decide_eq_decide, bytes_eq]
theorem u64_ok {x : Int} (h : (Lit.int .u64 x).wf = true) : 0 ≤ x ∧ x ≤ 18446744073709551615 := by
  simp only [Lit.wf, Bool.and_eq_true, decide_eq_true_eq] at h
  have h0 : IntKind.u64.min = 0 := rfl
  have h1 : IntKind.u64.max = 18446744073709551615 := rfl
  omega
end Go.Proofs.Ytaclpphhidlgpaa
