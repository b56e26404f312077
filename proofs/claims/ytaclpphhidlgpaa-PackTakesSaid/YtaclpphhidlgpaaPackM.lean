/- The plain laws of package pack: the order of keys, no bytes a beginning of others. -/
import Derived.Test.YtaclpphhidlgpaaPackF
namespace Go.Proofs.Ytaclpphhidlgpaa
open Go Go.Proofs.Ytaclpphhidlgpaa.X
set_option linter.unusedSimpArgs false

/-! ### The order of keys -/
/-- A number's bytes, the first one first. -/
def dig : Nat → Nat → List UInt8
  | 0, _ => []
  | n + 1, K => UInt8.ofNat (K / 256 ^ n) :: dig n K
theorem dig_8 (K : Nat) : (List.range 8).map (keyAt K) = dig 8 K := by
  have : List.range 8 = [0, 1, 2, 3, 4, 5, 6, 7] := by decide
  rw [this]
  rfl
theorem less_cons (a b : UInt8) (x y : List UInt8) : Op.bytesLess (a :: x) (b :: y) = if a = b then Op.bytesLess x y else decide (a < b) := by
  rw [Op.bytesLess]
  by_cases h : a = b
  · subst h; simp [UInt8.lt_irrefl]
  · rw [if_neg h]
    by_cases h2 : a < b
    · simp [h2]
    · simp [h2, h]
theorem less_irr : ∀ x : List UInt8, Op.bytesLess x x = false
  | [] => rfl
  | a :: x => by rw [less_cons, if_pos rfl]; exact less_irr x
theorem less_pre : ∀ p x y : List UInt8, Op.bytesLess (p ++ x) (p ++ y) = Op.bytesLess x y
  | [], _, _ => rfl
  | a :: p, x, y => by rw [List.cons_append, List.cons_append, less_cons, if_pos rfl]; exact less_pre p x y
theorem u8_lt (a b : UInt8) : (a < b) ↔ a.toNat < b.toNat := UInt8.lt_iff_toNat_lt
theorem dig_less : ∀ (n K L : Nat) (s t : List UInt8), Op.bytesLess (dig n K ++ s) (dig n L ++ t) = if K % 256 ^ n = L % 256 ^ n then Op.bytesLess s t else decide (K % 256 ^ n < L % 256 ^ n)
  | 0, K, L, s, t => by simp [dig, Nat.mod_one]
  | n + 1, K, L, s, t => by
    have hp : 0 < 256 ^ n := Nat.pow_pos (by decide)
    rw [dig, dig, List.cons_append, List.cons_append, less_cons, dig_less n K L s t, Nat.mod_pow_succ, Nat.mod_pow_succ]
    have ha : (UInt8.ofNat (K / 256 ^ n)).toNat = K / 256 ^ n % 256 := by rw [UInt8.toNat_ofNat']
    have hb : (UInt8.ofNat (L / 256 ^ n)).toNat = L / 256 ^ n % 256 := by rw [UInt8.toNat_ofNat']
    have hr := Nat.mod_lt K hp
    have hs := Nat.mod_lt L hp
    generalize UInt8.ofNat (K / 256 ^ n) = a at *
    generalize UInt8.ofNat (L / 256 ^ n) = b at *
    generalize K / 256 ^ n % 256 = i at *
    generalize L / 256 ^ n % 256 = j at *
    generalize K % 256 ^ n = x at *
    generalize L % 256 ^ n = y at *
    generalize 256 ^ n = p at *
    by_cases h : a = b
    · subst h
      have : i = j := by omega
      subst this
      rw [if_pos rfl]
      by_cases h2 : x = y
      · subst h2; rw [if_pos rfl, if_pos rfl]
      · rw [if_neg h2, if_neg (by omega)]
        simp
    · have hij : i ≠ j := fun e => h (UInt8.toNat_inj.1 (by omega))
      rw [if_neg h]
      rcases Nat.lt_or_gt_of_ne hij with hl | hl
      · have := Nat.mul_le_mul_left p (show i + 1 ≤ j from hl)
        rw [Nat.mul_add] at this
        rw [if_neg (by omega), decide_eq_true ((u8_lt a b).2 (by omega)), decide_eq_true (by omega)]
      · have := Nat.mul_le_mul_left p (show j + 1 ≤ i from hl)
        rw [Nat.mul_add] at this
        rw [if_neg (by omega), decide_eq_false (fun e => by have := (u8_lt a b).1 e; omega), decide_eq_false (by omega)]
/-- Rows of bytes, escaped and ended. -/
theorem esc_less : ∀ (x y s t : List UInt8), x ≠ y → Op.bytesLess (x.flatMap escB ++ [0, 1] ++ s) (y.flatMap escB ++ [0, 1] ++ t) = Op.bytesLess x y
  | [], [], _, _, h => absurd rfl h
  | [], c :: y, s, t, _ => by
    by_cases hc : c = 0
    · subst hc; simp [escB, Op.bytesLess]
    · have h0 : (0 : UInt8) < c := (u8_lt 0 c).2 (Nat.pos_of_ne_zero fun e => hc (UInt8.toNat_inj.1 e))
      simp [escB, hc, Op.bytesLess, h0]
  | c :: x, [], s, t, _ => by
    by_cases hc : c = 0
    · subst hc; simp [escB, Op.bytesLess]
    · have h0 : ¬ c < (0 : UInt8) := fun e => by have := (u8_lt c 0).1 e; simp at this
      simp [escB, hc, Op.bytesLess, h0]
  | c :: x, d :: y, s, t, h => by
    rw [less_cons, List.flatMap_cons, List.flatMap_cons]
    by_cases e : c = d
    · subst e
      rw [if_pos rfl, List.append_assoc, List.append_assoc, List.append_assoc, List.append_assoc, less_pre, ← List.append_assoc, ← List.append_assoc]
      exact esc_less x y s t (fun e => h (by rw [e]))
    · rw [if_neg e]
      by_cases hc : c = 0
      · subst hc
        have hd : ¬ d = 0 := fun q => e q.symm
        simp [escB, hd, less_cons, e]
      · by_cases hd : d = 0
        · subst hd
          simp [escB, hc, less_cons, e]
        · simp [escB, hc, hd, less_cons, e]
theorem sym_ext {a b : ByteArray} (h : a.data.toList = b.data.toList) : a = b := by
  obtain ⟨⟨a⟩⟩ := a; obtain ⟨⟨b⟩⟩ := b; simp at h; subst h; rfl
theorem isV_cases {v : VAL} (h : isV v = true) : (v.1 = 1 ∧ v.2.2 = ⟨#[]⟩) ∨ (v.1 = 2 ∧ v.2.1 = 0 ∧ v.2.2.size ≤ 256) := by simpa [isV] using h
theorem valK_1 {v : VAL} (h : v.1 = 1) : valK v = 1 :: dig 8 (keyN v.2.1) := by rw [valK, if_pos h, dig_8]
theorem valK_2 {v : VAL} (h : v.1 = 2) : valK v = 2 :: (v.2.2.data.toList.flatMap escB ++ [0, 1]) := by rw [valK, if_neg (by omega)]
/-- Two values that are unlike: their keys' order is theirs, whatever stands behind. -/
theorem valK_less {a b : VAL} (ha : isV a = true) (hb : isV b = true) (oa : okV a) (ob : okV b) (h : a ≠ b) (s t : List UInt8) : Op.bytesLess (valK a ++ s) (valK b ++ t) = decide (cmpV a b < 0) := by
  rw [cmpV, if_neg h]
  obtain ⟨k1, n1, s1⟩ := a
  obtain ⟨k2, n2, s2⟩ := b
  simp only at *
  rcases isV_cases ha with ⟨h1, h2⟩ | ⟨h1, h2, _⟩ <;> rcases isV_cases hb with ⟨g1, g2⟩ | ⟨g1, g2, _⟩ <;> simp only at h1 h2 g1 g2 <;> subst h1 h2 g1 g2
  · have hn : n1 ≠ n2 := fun e => h (by rw [e])
    have e1 := keyN_ok oa.2.1
    have e2 := keyN_ok ob.2.1
    simp only at e1 e2
    rw [valK_1 rfl, valK_1 rfl, List.cons_append, List.cons_append, less_cons, if_pos rfl, dig_less]
    dsimp only
    rw [Nat.mod_eq_of_lt (by omega), Nat.mod_eq_of_lt (by omega), if_neg (by omega)]
    by_cases hl : n1 < n2
    · rw [if_pos (.inr ⟨rfl, .inl hl⟩), decide_eq_true (by omega)]; rfl
    · rw [if_neg (by simp [Op.bytesLess]; omega), decide_eq_false (by omega)]; rfl
  · rw [valK_1 rfl, valK_2 rfl, List.cons_append, List.cons_append, less_cons, if_neg (by decide), if_pos (by left; decide)]; rfl
  · rw [valK_2 rfl, valK_1 rfl, List.cons_append, List.cons_append, less_cons, if_neg (by decide), if_neg (by simp)]; rfl
  · have hs : s1.data.toList ≠ s2.data.toList := fun e => h (by rw [sym_ext e])
    rw [valK_2 rfl, valK_2 rfl, List.cons_append, List.cons_append, less_cons, if_pos rfl, esc_less _ _ _ _ hs]
    by_cases hl : Op.bytesLess s1.data.toList s2.data.toList = true
    · rw [hl, if_pos (.inr ⟨rfl, .inr ⟨rfl, rfl⟩⟩)]; rfl
    · rw [if_neg (by simp [hl])]; simpa using hl
theorem cmpV_0 {a b : VAL} (h : cmpV a b = 0) : a = b := by
  by_cases e : a = b
  · exact e
  · rw [cmpV, if_neg e] at h; split at h <;> omega
theorem cmpV_self (a : VAL) : cmpV a a = 0 := by rw [cmpV, if_pos rfl]
theorem cmpV_range (a b : VAL) : cmpV a b = 0 ∨ cmpV a b = -1 ∨ cmpV a b = 1 := by
  unfold cmpV; split
  · simp
  · split <;> simp
theorem valK_ne (v : VAL) : ∃ c r, valK v = c :: r := by
  unfold valK; split <;> exact ⟨_, _, rfl⟩
theorem less_swap : ∀ x y : List UInt8, x ≠ y → Op.bytesLess x y = !Op.bytesLess y x
  | [], [], h => absurd rfl h
  | [], _ :: _, _ => rfl
  | _ :: _, [], _ => rfl
  | a :: x, b :: y, h => by
    rw [less_cons, less_cons]
    by_cases e : a = b
    · subst e; rw [if_pos rfl, if_pos rfl]; exact less_swap x y (fun q => h (by rw [q]))
    · rw [if_neg e, if_neg (fun q => e q.symm)]
      have hne : a.toNat ≠ b.toNat := fun q => e (UInt8.toNat_inj.1 q)
      by_cases hl : a < b
      · have h1 := (u8_lt a b).1 hl
        rw [decide_eq_true hl, decide_eq_false (fun q => by have := (u8_lt b a).1 q; omega)]; rfl
      · have h1 : ¬ a.toNat < b.toNat := fun q => hl ((u8_lt a b).2 q)
        rw [decide_eq_false hl, decide_eq_true ((u8_lt b a).2 (by omega))]; rfl
/-- THE ORDER: of tuples that may be, their keys'. -/
theorem key_order : ∀ (l m : List VAL), (∀ v ∈ l, isV v = true ∧ okV v) → (∀ v ∈ m, isV v = true ∧ okV v) → Op.bytesLess (keyB l) (keyB m) = decide (cmpT l m < 0) ∧ (keyB l = keyB m ↔ cmpT l m = 0)
  | [], [], _, _ => by simp [keyB, cmpT, Op.bytesLess]
  | [], b :: m, _, _ => by
    obtain ⟨c, r, e⟩ := valK_ne b
    simp [keyB, cmpT, e, Op.bytesLess]
  | a :: l, [], _, _ => by
    obtain ⟨c, r, e⟩ := valK_ne a
    simp [keyB, cmpT, e, Op.bytesLess]
  | a :: l, b :: m, hl, hm => by
    have ha := hl a List.mem_cons_self
    have hb := hm b List.mem_cons_self
    have ih := key_order l m (fun v h => hl v (List.mem_cons_of_mem _ h)) (fun v h => hm v (List.mem_cons_of_mem _ h))
    have e1 : keyB (a :: l) = valK a ++ keyB l := List.flatMap_cons
    have e2 : keyB (b :: m) = valK b ++ keyB m := List.flatMap_cons
    rw [e1, e2]
    by_cases e : a = b
    · subst e
      rw [cmpT, cmpV_self, if_neg (by simp), less_pre]
      exact ⟨ih.1, by rw [List.append_cancel_left_eq]; exact ih.2⟩
    · have hne : cmpV a b ≠ 0 := fun q => e (cmpV_0 q)
      rw [cmpT, if_pos hne]
      have hx := valK_less ha.1 hb.1 ha.2 hb.2 e (keyB l) (keyB m)
      have hy := valK_less hb.1 ha.1 hb.2 ha.2 (fun q => e q.symm) (keyB m) (keyB l)
      refine ⟨hx, fun q => ?_, fun q => absurd q hne⟩
      rw [q, less_irr] at hx
      rw [q, less_irr] at hy
      have h1 : ¬ cmpV a b < 0 := by simpa using hx.symm
      have h2 : ¬ cmpV b a < 0 := by simpa using hy.symm
      exfalso
      unfold cmpV at h1 h2
      rw [if_neg e] at h1
      rw [if_neg (fun q => e q.symm)] at h2
      have h3 : ¬ (a.1 < b.1 ∨ a.1 = b.1 ∧ (a.2.1 < b.2.1 ∨ a.2.1 = b.2.1 ∧ Op.bytesLess a.2.2.data.toList b.2.2.data.toList = true)) := fun c => h1 (by rw [if_pos c]; omega)
      have h4 : ¬ (b.1 < a.1 ∨ b.1 = a.1 ∧ (b.2.1 < a.2.1 ∨ b.2.1 = a.2.1 ∧ Op.bytesLess b.2.2.data.toList a.2.2.data.toList = true)) := fun c => h2 (by rw [if_pos c]; omega)
      have k1 : a.1 = b.1 := by omega
      have k2 : a.2.1 = b.2.1 := by
        rcases Int.lt_trichotomy a.2.1 b.2.1 with q | q | q
        · exact absurd (.inr ⟨k1, .inl q⟩) h3
        · exact q
        · exact absurd (.inr ⟨k1.symm, .inl q⟩) h4
      have k3 : a.2.2.data.toList ≠ b.2.2.data.toList := fun q => e (by
        obtain ⟨a1, a2, a3⟩ := a; obtain ⟨b1, b2, b3⟩ := b
        simp only at k1 k2 q
        rw [k1, k2, sym_ext q])
      have k4 : ¬ Op.bytesLess a.2.2.data.toList b.2.2.data.toList = true := fun q => h3 (.inr ⟨k1, .inr ⟨k2, q⟩⟩)
      have k5 : ¬ Op.bytesLess b.2.2.data.toList a.2.2.data.toList = true := fun q => h4 (.inr ⟨k1.symm, .inr ⟨k2.symm, q⟩⟩)
      rw [less_swap _ _ k3] at k4
      simp at k4 k5
      rw [k4] at k5; cases k5
end Go.Proofs.Ytaclpphhidlgpaa
