/- The plain laws of package pack: there and back. -/
import Derived.Test.YtaclpphhidlgpaaPackW
import Derived.Test.YtaclpphhidlgpaaPackT
namespace Go.Proofs.Ytaclpphhidlgpaa
open Go Go.Proofs.Ytaclpphhidlgpaa.X
set_option linter.unusedSimpArgs false

theorem pNum_back : ∀ (x i acc : Nat) (s : List UInt8), i ≤ 9 → x * 128 ^ i < 18446744073709551616 → (0 < i → 0 < x) → pNum i acc (numB x ++ s) = some (acc + x * 128 ^ i, s) := by
  intro x
  induction x using Nat.strongRecOn with
  | _ x ih =>
    intro i acc s hi hb h0
    obtain ⟨p1, p2, p3, p4⟩ := pow128 i hi
    have h9 : i = 9 → x ≤ 1 := by
      intro e
      have := p4 e
      rw [this] at hb
      omega
    rw [numB.eq_def]
    by_cases hx : x < 128
    · have hc : (UInt8.ofNat x).toNat = x := by rw [UInt8.toNat_ofNat']; omega
      rw [if_pos hx, List.singleton_append, pNum, hc, if_neg (by omega), if_pos hx, Nat.mod_eq_of_lt hx]
    · have hc : (UInt8.ofNat (x % 128 + 128)).toNat = x % 128 + 128 := by rw [UInt8.toNat_ofNat']; omega
      have hx8 : i ≤ 8 := by omega
      rw [if_neg hx, List.cons_append, pNum, hc, if_neg (by omega), if_neg (by omega)]
      have e1 : (x % 128 + 128) % 128 = x % 128 := by omega
      have e2 : x / 128 * 128 ^ (i + 1) + x % 128 * 128 ^ i = x * 128 ^ i := by
        rw [← p1, ← Nat.mul_assoc, Nat.mul_comm (x / 128 * 128 ^ i) 128, ← Nat.mul_assoc, ← Nat.add_mul, Nat.mul_comm 128]
        congr 1; omega
      rw [e1, ih (x / 128) (by omega) (i + 1) _ s (by omega) (by omega) (fun _ => by omega)]
      congr 2
      omega
theorem pNum_0 (x : Nat) (s : List UInt8) (h : x < 18446744073709551616) : pNum 0 0 (numB x ++ s) = some (x, s) := by
  have := pNum_back x 0 0 s (by omega) (by omega) (fun h => by omega)
  simpa using this
theorem pNum_just : ∀ (xs : List UInt8) (i acc : Nat) (b : Nat × List UInt8), pNum i acc xs = some b → ∃ d, b.1 = acc + d * 128 ^ i ∧ xs = numB d ++ b.2 ∧ (0 < i → 0 < d) := by
  intro xs
  induction xs with
  | nil => intro i acc b h; cases h
  | cons c xs ih =>
    intro i acc b h
    rw [pNum] at h
    split at h
    · cases h
    · rename_i hf
      have hc := c.toNat_lt
      split at h
      · rename_i hl
        cases h
        refine ⟨c.toNat, by rw [Nat.mod_eq_of_lt hl], ?_, fun h => by omega⟩
        rw [numB, if_pos hl, List.singleton_append, UInt8.ofNat_toNat]
      · rename_i hl
        obtain ⟨d, h1, h2, h3⟩ := ih _ _ _ h
        have hd := h3 (by omega)
        refine ⟨d * 128 + c.toNat % 128, ?_, ?_, fun _ => by omega⟩
        · rw [h1, Nat.add_mul, Nat.mul_assoc, Nat.mul_comm 128, ← Nat.pow_succ]; show _ = acc + (d * 128 ^ (i + 1) + _); omega
        · rw [numB, if_neg (by omega), List.cons_append, show (d * 128 + c.toNat % 128) / 128 = d by omega, h2]
          congr 1
          apply UInt8.toNat_inj.1
          rw [UInt8.toNat_ofNat']; omega
theorem pNum_j {xs : List UInt8} {b : Nat × List UInt8} (h : pNum 0 0 xs = some b) : xs = numB b.1 ++ b.2 := by
  obtain ⟨d, h1, h2, _⟩ := pNum_just xs 0 0 b h
  rw [show b.1 = d by simpa using h1]; exact h2
theorem pNum_lt : ∀ (xs : List UInt8) (i acc : Nat) (b : Nat × List UInt8), i ≤ 9 → acc < 128 ^ i → pNum i acc xs = some b → b.1 < 18446744073709551616 := by
  intro xs
  induction xs with
  | nil => intro i acc b _ _ h; cases h
  | cons c xs ih =>
    intro i acc b hi ha h
    rw [pNum] at h
    split at h
    · cases h
    · rename_i hf
      obtain ⟨n1, n2, n3⟩ := num_bound c hi ha (by omega)
      split at h
      · cases h; exact n1
      · rename_i hl
        exact ih (i + 1) _ b (by have := n3 (by omega); omega) n2 h
theorem zig_unzig (x : Int) (h : okI x) : unzig (zig x).toNat = x := by
  unfold okI at h; unfold unzig zig; split <;> split <;> omega
theorem unzig_zig (a : Nat) : (zig (unzig a)).toNat = a := by
  unfold unzig zig; split <;> split <;> omega
theorem pInt_back (x : Int) (h : okI x) (s : List UInt8) : pInt (numB (zig x).toNat ++ s) = some (x, s) := by
  have := zig_ok x h
  rw [pInt, pNum_0 _ s (by omega)]
  simp [zig_unzig x h]
theorem pInt_just {xs : List UInt8} {b : Int × List UInt8} (h : pInt xs = some b) : xs = numB (zig b.1).toNat ++ b.2 ∧ okI b.1 := by
  rw [pInt] at h
  obtain ⟨q, hq, rfl⟩ := Option.map_eq_some_iff.1 h
  exact ⟨by rw [unzig_zig]; exact pNum_j hq, unzig_ok (pNum_lt xs 0 0 q (by omega) (by simp) hq)⟩
theorem pText_back (most : Int) (l s : List UInt8) (h1 : (l.length : Int) ≤ most) (h2 : l.length ≤ 1048576) : pText most (textB l ++ s) = some (l, s) := by
  rw [pText, textB, List.append_assoc, pNum_0 _ _ (by omega)]
  dsimp only
  rw [if_neg (by rw [List.length_append]; omega)]
  simp
theorem pText_just {most : Int} {xs : List UInt8} {b : List UInt8 × List UInt8} (h : pText most xs = some b) : xs = textB b.1 ++ b.2 ∧ (b.1.length : Int) ≤ most ∧ b.1.length ≤ 1048576 := by
  unfold pText at h
  split at h
  · cases h
  · rename_i a ys hq
    split at h
    · cases h
    · rename_i hf
      cases h
      have hj := pNum_j hq
      dsimp only at hj ⊢
      have hl : (ys.take a).length = a := by rw [List.length_take]; omega
      rw [textB, hl, List.append_assoc, List.take_append_drop]
      exact ⟨hj, by omega, by omega⟩
theorem sym_of (l : List UInt8) : (⟨l.toArray⟩ : ByteArray).data.toList = l := by simp
theorem arr_of (s : ByteArray) : (⟨s.data.toList.toArray⟩ : ByteArray) = s := by
  obtain ⟨⟨l⟩⟩ := s; rfl
theorem pVal_back {v : VAL} (hv : isV v = true) (ho : okV v) (s : List UInt8) : pVal (valB v ++ s) = some (v, s) := by
  obtain ⟨k, n, t⟩ := v
  rcases isV_cases hv with ⟨h1, h2⟩ | ⟨h1, h2, h3⟩ <;> simp only at h1 h2 <;> subst h1 h2
  · rw [valB, if_pos rfl, List.cons_append, pVal, if_pos (by decide), pInt_back _ ho.2.1]; rfl
  · have hl := sym_len t
    rw [valB, if_neg (by simp), List.cons_append, pVal, if_neg (by decide), if_pos (by decide), pText_back _ _ _ (show (t.data.toList.length : Int) ≤ 256 by simp only at h3; omega) (show t.data.toList.length ≤ 1048576 by simp only at h3; omega)]
    simp only [Option.map_some, arr_of]
theorem pVal_just {xs : List UInt8} {b : VAL × List UInt8} (h : pVal xs = some b) : xs = valB b.1 ++ b.2 ∧ isV b.1 = true ∧ okV b.1 := by
  cases xs with
  | nil => cases h
  | cons c xs =>
    rw [pVal] at h
    split at h
    · rename_i hc
      obtain ⟨q, hq, rfl⟩ := Option.map_eq_some_iff.1 h
      obtain ⟨h1, h2⟩ := pInt_just hq
      have hc1 : c = 1 := UInt8.toNat_inj.1 hc
      refine ⟨?_, by simp [isV], by simp [okI], h2, by simp [ByteArray.size]⟩
      rw [valB, if_pos rfl, hc1, List.cons_append, ← h1]
    · split at h
      · rename_i hc
        obtain ⟨q, hq, rfl⟩ := Option.map_eq_some_iff.1 h
        obtain ⟨h1, h2, h3⟩ := pText_just hq
        have hc1 : c = 2 := UInt8.toNat_inj.1 hc
        have hs : (⟨q.1.toArray⟩ : ByteArray).size = q.1.length := by show q.1.toArray.size = _; simp
        refine ⟨?_, decide_eq_true (.inr ⟨rfl, rfl, by dsimp only; rw [hs]; omega⟩), by simp [okI], by simp [okI], by dsimp only; rw [hs]; omega⟩
        rw [valB, if_neg (by simp), hc1, List.cons_append, sym_of, ← h1]
      · cases h
theorem pVals_back : ∀ (l : List VAL) (s : List UInt8), (∀ v ∈ l, isV v = true ∧ okV v) → pVals l.length (l.flatMap valB ++ s) = some (l, s)
  | [], s, _ => rfl
  | v :: l, s, h => by
    have hv := h v List.mem_cons_self
    rw [List.length_cons, pVals, List.flatMap_cons, List.append_assoc, pVal_back hv.1 hv.2]
    dsimp only
    rw [pVals_back l s (fun u hu => h u (List.mem_cons_of_mem _ hu))]; rfl
theorem pVals_just : ∀ (n : Nat) (xs : List UInt8) (b : List VAL × List UInt8), pVals n xs = some b → xs = b.1.flatMap valB ++ b.2 ∧ b.1.length = n ∧ ∀ v ∈ b.1, isV v = true ∧ okV v := by
  intro n
  induction n with
  | zero => intro xs b h; cases h; exact ⟨rfl, rfl, by simp⟩
  | succ n ih =>
    intro xs b h
    rw [pVals] at h
    split at h
    · cases h
    · rename_i v ys hv
      obtain ⟨q, hq, rfl⟩ := Option.map_eq_some_iff.1 h
      obtain ⟨h1, h2, h3⟩ := pVal_just hv
      obtain ⟨h4, h5, h6⟩ := ih ys q hq
      dsimp only at h1 h2 h3 ⊢
      refine ⟨by rw [h1, List.flatMap_cons, List.append_assoc, ← h4], by rw [List.length_cons, h5], fun u hu => ?_⟩
      rcases List.mem_cons.1 hu with rfl | hu
      · exact ⟨h2, h3⟩
      · exact h6 u hu
theorem isT_of {l : List VAL} (h : ∀ v ∈ l, isV v = true) (hl : l.length ≤ 8) : isT l = true := by
  simp only [isT, Bool.and_eq_true, List.all_eq_true, decide_eq_true_eq]
  exact ⟨h, hl⟩
theorem pTup_back {l : List VAL} (hl : isT l = true) (ho : ∀ v ∈ l, okV v) (s : List UInt8) : pTup (tupB l ++ s) = some (l, s) := by
  have h8 := isT_len hl
  have hc : (UInt8.ofNat l.length).toNat = l.length := by rw [UInt8.toNat_ofNat']; omega
  rw [tupB, List.cons_append, pTup, hc, if_neg (by omega)]
  exact pVals_back l s (fun v hv => ⟨isT_all hl v hv, ho v hv⟩)
theorem pTup_just {xs : List UInt8} {b : List VAL × List UInt8} (h : pTup xs = some b) : xs = tupB b.1 ++ b.2 ∧ isT b.1 = true ∧ ∀ v ∈ b.1, okV v := by
  cases xs with
  | nil => cases h
  | cons c xs =>
    rw [pTup] at h
    split at h
    · cases h
    · rename_i hc
      obtain ⟨h1, h2, h3⟩ := pVals_just _ _ _ h
      refine ⟨?_, isT_of (fun v hv => (h3 v hv).1) (by omega), fun v hv => (h3 v hv).2⟩
      rw [tupB, h2, UInt8.ofNat_toNat, List.cons_append, ← h1]
theorem pCnt_back {l : List VAL} (hl : isT l = true) (ho : ∀ v ∈ l, okV v) (N : Int) (hN : okI N) (s : List UInt8) : pCnt (cntB l N ++ s) = some ((l, N), s) := by
  rw [pCnt, cntB, List.append_assoc, pTup_back hl ho]
  dsimp only
  rw [pInt_back N hN]; rfl
theorem pCnt_just {xs : List UInt8} {b : (List VAL × Int) × List UInt8} (h : pCnt xs = some b) : xs = cntB b.1.1 b.1.2 ++ b.2 ∧ isT b.1.1 = true ∧ (∀ v ∈ b.1.1, okV v) ∧ okI b.1.2 := by
  rw [pCnt] at h
  split at h
  · cases h
  · rename_i l ys hq
    obtain ⟨q, hq2, rfl⟩ := Option.map_eq_some_iff.1 h
    obtain ⟨h1, h2, h3⟩ := pTup_just hq
    obtain ⟨h4, h5⟩ := pInt_just hq2
    dsimp only at *
    exact ⟨by rw [cntB, List.append_assoc, ← h4]; exact h1, h2, h3, h5⟩
/-! ### Keys -/
theorem pSym_back : ∀ (s t : List UInt8), pSym (s.flatMap escB ++ [0, 1] ++ t) = some (s, t)
  | [], t => by
    show pSym (0 :: 1 :: t) = _
    rw [pSym_0 rfl]; rfl
  | c :: s, t => by
    rw [List.flatMap_cons, List.append_assoc, List.append_assoc]
    by_cases hc : c = 0
    · subst hc
      have e : escB 0 = [0, 255] := rfl
      rw [e]
      show pSym (0 :: 255 :: (s.flatMap escB ++ ([0, 1] ++ t))) = _
      rw [pSym_0 rfl]
      dsimp only
      rw [if_neg (by decide), if_pos (by decide), ← List.append_assoc, pSym_back s t]; rfl
    · have e : escB c = [c] := by simp [escB, hc]
      rw [e]
      show pSym (c :: (s.flatMap escB ++ ([0, 1] ++ t))) = _
      rw [pSym_1 (fun h => hc (UInt8.toNat_inj.1 h)), ← List.append_assoc, pSym_back s t]; rfl
theorem pSym_just : ∀ (n : Nat) (xs : List UInt8), xs.length ≤ n → ∀ b, pSym xs = some b → xs = b.1.flatMap escB ++ [0, 1] ++ b.2 := by
  intro n
  induction n with
  | zero =>
    intro xs hx b hb
    have : xs = [] := List.eq_nil_of_length_eq_zero (by omega)
    subst this; cases hb
  | succ n ih =>
    intro xs hx b hb
    cases xs with
    | nil => cases hb
    | cons c xs =>
      simp only [List.length_cons] at hx
      by_cases hc : c.toNat = 0
      · have hc0 : c = 0 := UInt8.toNat_inj.1 hc
        rw [pSym_0 hc] at hb
        cases xs with
        | nil => cases hb
        | cons d ys =>
          dsimp only at hb
          simp only [List.length_cons] at hx
          split at hb
          · rename_i hd
            have hd1 : d = 1 := UInt8.toNat_inj.1 hd
            cases hb; rw [hc0, hd1]; rfl
          · split at hb
            · rename_i hd
              have hd1 : d = 255 := UInt8.toNat_inj.1 hd
              obtain ⟨q, hq, rfl⟩ := Option.map_eq_some_iff.1 hb
              have := ih ys (by omega) q hq
              dsimp only
              rw [List.flatMap_cons, hc0, hd1, show escB 0 = [0, 255] from rfl, List.append_assoc, List.append_assoc, ← List.append_assoc (q.1.flatMap escB), ← this]; rfl
            · cases hb
      · have hc0 : ¬ c = 0 := fun e => hc (by rw [e]; rfl)
        rw [pSym_1 hc] at hb
        obtain ⟨q, hq, rfl⟩ := Option.map_eq_some_iff.1 hb
        have := ih xs (by omega) q hq
        dsimp only
        rw [List.flatMap_cons, show escB c = [c] by simp [escB, hc0], List.append_assoc, List.append_assoc, ← List.append_assoc (q.1.flatMap escB), ← this]; rfl
theorem beN_app (a b : List UInt8) : beN (a ++ b) = beN a * 256 ^ b.length + beN b := by
  have key : ∀ (b : List UInt8) (x : Nat), b.foldl (fun x c => x * 256 + c.toNat) x = x * 256 ^ b.length + beN b := by
    intro b
    induction b with
    | nil => intro x; simp [beN]
    | cons c b ih =>
      intro x
      rw [List.foldl_cons, ih, List.length_cons, Nat.pow_succ, show beN (c :: b) = c.toNat * 256 ^ b.length + beN b by rw [beN, List.foldl_cons, ih]; simp, Nat.add_mul, Nat.mul_assoc, Nat.mul_comm 256]
      omega
  rw [beN, List.foldl_append, key]; rfl
theorem dig_len : ∀ n K, (dig n K).length = n
  | 0, _ => rfl
  | n + 1, K => by rw [dig, List.length_cons, dig_len n K]
theorem beN_dig : ∀ n K, beN (dig n K) = K % 256 ^ n
  | 0, K => by simp [dig, beN, Nat.mod_one]
  | n + 1, K => by
    have e : dig (n + 1) K = [UInt8.ofNat (K / 256 ^ n)] ++ dig n K := rfl
    rw [e, beN_app, dig_len, beN_dig n K, Nat.mod_pow_succ]
    have : beN [UInt8.ofNat (K / 256 ^ n)] = K / 256 ^ n % 256 := by simp [beN]
    rw [this, Nat.mul_comm]; omega
theorem dig_beN : ∀ (l : List UInt8), dig l.length (beN l) = l
  | [] => rfl
  | c :: l => by
    have e : beN (c :: l) = c.toNat * 256 ^ l.length + beN l := by
      have := beN_app [c] l
      simpa [beN] using this
    have hl := beN_lt l
    have hp : 0 < 256 ^ l.length := Nat.pow_pos (by decide)
    have hd : (c.toNat * 256 ^ l.length + beN l) / 256 ^ l.length = c.toNat := by
      rw [Nat.mul_comm, Nat.mul_add_div hp, Nat.div_eq_of_lt hl]; omega
    rw [List.length_cons, dig, e, hd, UInt8.ofNat_toNat]
    congr 1
    have key : ∀ (n K x : Nat), dig n (x * 256 ^ n + K) = dig n K := by
      intro n
      induction n with
      | zero => intro K x; rfl
      | succ n ih =>
        intro K x
        have hpn : 0 < 256 ^ n := Nat.pow_pos (by decide)
        have h1 : (x * 256 ^ (n + 1) + K) / 256 ^ n = x * 256 + K / 256 ^ n := by
          rw [Nat.pow_succ, Nat.mul_comm (256 ^ n) 256, ← Nat.mul_assoc, Nat.mul_comm _ (256 ^ n), Nat.mul_add_div hpn]
        rw [dig, dig, h1]
        congr 1
        · apply UInt8.toNat_inj.1
          rw [UInt8.toNat_ofNat', UInt8.toNat_ofNat']; omega
        · rw [Nat.pow_succ, Nat.mul_comm (256 ^ n) 256, ← Nat.mul_assoc]
          exact ih K (x * 256)
    rw [key]; exact dig_beN l
theorem pKey_back {v : VAL} (hv : isV v = true) (ho : okV v) (s : List UInt8) : pKey (valK v ++ s) = some (v, s) := by
  obtain ⟨k, n, t⟩ := v
  rcases isV_cases hv with ⟨h1, h2⟩ | ⟨h1, h2, h3⟩ <;> simp only at h1 h2 <;> subst h1 h2
  · have hn := keyN_ok ho.2.1
    have hl : (dig 8 (keyN n) ++ s).length = 8 + s.length := by rw [List.length_append, dig_len]
    rw [valK_1 rfl, List.cons_append, pKey, if_pos (by decide), if_pos (by dsimp only; omega)]
    have e1 : (dig 8 (keyN n) ++ s).take 8 = dig 8 (keyN n) := List.take_left' (dig_len 8 _)
    have e2 : (dig 8 (keyN n) ++ s).drop 8 = s := List.drop_left' (dig_len 8 _)
    dsimp only
    rw [e1, e2, beN_dig, Nat.mod_eq_of_lt (by have := hn.2; dsimp only at this; omega)]
    have h3 := hn.1
    dsimp only at h3
    rw [h3]
    rw [Int.add_sub_cancel]
  · rw [valK_2 rfl, List.cons_append, pKey, if_neg (by decide), if_pos (by decide), pSym_back]
    simp only [Option.map_some, arr_of]
theorem pKey_just {xs : List UInt8} {b : VAL × List UInt8} (h : pKey xs = some b) : xs = valK b.1 ++ b.2 := by
  cases xs with
  | nil => cases h
  | cons c xs =>
    rw [pKey] at h
    split at h
    · rename_i hc
      have hc1 : c = 1 := UInt8.toNat_inj.1 hc
      split at h
      · rename_i h8
        cases h
        have hl : (xs.take 8).length = 8 := by rw [List.length_take]; omega
        have hd := dig_beN (xs.take 8)
        rw [hl] at hd
        have hk : keyN ((beN (xs.take 8) : Int) - 9223372036854775808) = beN (xs.take 8) := by unfold keyN; omega
        rw [valK_1 rfl, hk, hd, hc1, List.cons_append, List.take_append_drop]
      · cases h
    · split at h
      · rename_i hc
        have hc1 : c = 2 := UInt8.toNat_inj.1 hc
        obtain ⟨q, hq, rfl⟩ := Option.map_eq_some_iff.1 h
        have := pSym_just xs.length xs (Nat.le_refl _) q hq
        dsimp only
        rw [valK_2 rfl, sym_of, hc1, List.cons_append, ← this]
      · cases h
theorem pAll_back : ∀ (l : List VAL), (∀ v ∈ l, isV v = true ∧ okV v) → pAll (keyB l) = some l
  | [], _ => rfl
  | v :: l, h => by
    have hv := h v List.mem_cons_self
    have e : keyB (v :: l) = valK v ++ keyB l := List.flatMap_cons
    rw [e, pAll_cons (pKey_back hv.1 hv.2 _), pAll_back l (fun u hu => h u (List.mem_cons_of_mem _ hu))]; rfl
theorem pKeys_just : ∀ (n : Nat) (xs : List UInt8) (l : List VAL), pKeys n xs = some l → keyB l = xs := by
  intro n
  induction n with
  | zero =>
    intro xs l h
    cases xs with
    | nil => cases h; rfl
    | cons c xs => cases h
  | succ n ih =>
    intro xs l h
    cases xs with
    | nil => cases h; rfl
    | cons c xs =>
      rw [pKeys] at h
      split at h
      · cases h
      · rename_i v ys hv
        obtain ⟨q, hq, rfl⟩ := Option.map_eq_some_iff.1 h
        have h1 := pKey_just hv
        have e : keyB (v :: q) = valK v ++ keyB q := List.flatMap_cons
        rw [e, ih ys q hq]; exact h1.symm
theorem pFrom_back {l : List VAL} (hl : isT l = true) (ho : ∀ v ∈ l, okV v) : pFrom (keyB l) = some l := by
  rw [pFrom_some (pAll_back l (fun v hv => ⟨isT_all hl v hv, ho v hv⟩)), if_pos hl]
theorem pFrom_just {xs : List UInt8} {l : List VAL} (h : pFrom xs = some l) : keyB l = xs ∧ isT l = true := by
  rw [pFrom] at h
  split at h
  · cases h
  · rename_i q hq
    split at h
    · rename_i hT
      cases h
      exact ⟨pKeys_just _ _ _ hq, hT⟩
    · cases h
end Go.Proofs.Ytaclpphhidlgpaa
