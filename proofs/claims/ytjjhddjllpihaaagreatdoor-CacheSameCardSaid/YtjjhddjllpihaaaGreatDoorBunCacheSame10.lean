/- Texts that the proof of CacheSame stands on, part 10. -/
import Derived.Test.YtjjhddjllpihaaaGreatDoorProg
import Derived.Test.YtjjhddjllpihaaaGreatDoorBunCacheSame9
set_option maxHeartbeats 4000000
set_option maxRecDepth 100000
open Go.Proofs.Tryz renaming call159 → Zc159, call160 → Zc160, call161 → Zc161, call66 → Zc66, func126 → Zf126, func128 → Zf128, func129 → Zf129, func130 → Zf130, func133 → Zf133, func134 → Zf134, func149 → Zf149, func157 → Zf157, func158 → Zf158, func159 → Zf159, func162 → Zf162, func163 → Zf163, func165 → Zf165, func166 → Zf166, func167 → Zf167, func168 → Zf168, func169 → Zf169, func182 → Zf182, func43 → Zf43, func64 → Zf64, func74 → Zf74, func90 → Zf90, isAgg154 → Zi154, isAgg2 → Zi2, isAgg25 → Zi25, isAgg3 → Zi3, isAgg5 → Zi5, isAgg81 → Zi81, isAgg86 → Zi86, isAgg88 → Zi88, isAgg9 → Zi9, isAgg90 → Zi90, isAgg92 → Zi92, results130 → Zr130, results149 → Zr149, results157 → Zr157, results165 → Zr165, results166 → Zr166, results167 → Zr167, results43 → Zr43, results90 → Zr90, sizeOf154 → Zs154, sizeOf2 → Zs2, sizeOf222 → Zs222, sizeOf25 → Zs25, sizeOf3 → Zs3, sizeOf5 → Zs5, sizeOf81 → Zs81, sizeOf86 → Zs86, sizeOf88 → Zs88, sizeOf9 → Zs9, sizeOf90 → Zs90, sizeOf92 → Zs92, underlying154 → Zu154, underlying2 → Zu2, underlying20 → Zu20, underlying22 → Zu22, underlying222 → Zu222, underlying224 → Zu224, underlying226 → Zu226, underlying3 → Zu3, underlying5 → Zu5, underlying81 → Zu81, underlying88 → Zu88, underlying9 → Zu9, underlying90 → Zu90, underlying92 → Zu92, zeroValue25 → Zv25, zeroValue3 → Zv3, zeroValue5 → Zv5, zeroValue88 → Zv88, zeroValue92 → Zv92
set_option linter.unusedSimpArgs false
set_option linter.unusedVariables false
namespace Go.Proofs.YtjjhddjllpihaaaGreatDoor
open Go Go.Proofs.YtjjhddjllpihaaaGreatDoor.X
abbrev VAL := Int × Int × ByteArray
def encV (v : VAL) : List Value := [.int .i64 v.1, .int .i64 v.2.1, .string v.2.2]
def okI (n : Int) : Prop := -9223372036854775808 ≤ n ∧ n ≤ 9223372036854775807
def okV (v : VAL) : Prop := okI v.1 ∧ okI v.2.1 ∧ v.2.2.size ≤ 9223372036854775807
def KV : Kd VAL := Kd.plain 3 encV okV (fun _ => rfl) (fun x u hu => by simp [encV] at hu; rcases hu with rfl | rfl | rfl <;> rfl)
theorem KV_flat : Flat KV := fun h => h
theorem encV_one (x : VAL) : ∀ u, u ∈ encV x → u.oneCell' = true := fun u hu => by simp [encV] at hu; rcases hu with rfl | rfl | rfl <;> rfl
theorem KV_ok {lo hi : Nat} {w : World} {A : Option Addr} {n : Nat} {l : List VAL} (h : Sl KV lo hi w A n l) (i : Nat) (x : VAL) (hx : l[i]? = some x) : okV x := let ⟨_, _, _, hr, _⟩ := h.get i x hx; hr.2
def cmpV (a b : VAL) : Int := if a = b then 0 else if a.1 < b.1 ∨ a.1 = b.1 ∧ (a.2.1 < b.2.1 ∨ a.2.1 = b.2.1 ∧ Op.bytesLess a.2.2.data.toList b.2.2.data.toList = true) then -1 else 1
def cmpT : List VAL → List VAL → Int
  | [], [] => 0
  | [], _ :: _ => -1
  | _ :: _, [] => 1
  | a :: l, b :: m => if cmpV a b ≠ 0 then cmpV a b else cmpT l m
theorem eqV (a b : VAL) (w : World) : (Op.equalIn 10000 88 (.agg (encV a).toArray) (.agg (encV b).toArray)).run Tryz.prog w = .ok (decide (a = b)) w := by
  rw [run_equalIn_struct w 9999 _ _ _ (by simp [Program.fieldsOf, Zu88]) Zl]
  simp only [Program.fieldsOf, Zu88]
  simp [Op.eqFields, part, encV, Zi86, Zi2, Zi9, run_equalIn_int _ 9998 86 .i64 .i64 _ _ Tryz.underlying86, run_equalIn_int _ 9998 2 .i64 .i64 _ _ Zu2, run_equalIn_string _ 9998 9 _ _ Zu9, str_eq]
  obtain ⟨a1, a2, a3⟩ := a
  obtain ⟨b1, b2, b3⟩ := b
  by_cases h1 : a1 = b1 <;> by_cases h2 : a2 = b2 <;> by_cases h3 : a3 = b3 <;> simp [h1, h2, h3]
theorem eqV_guard : Tryz.prog.eqGuardType Tryz.prog.depth 88 = false := by kernel_rfl
theorem R01Compare_c (a b : VAL) (w : World) : Ret Tryz.prog 90 #[.agg (encV a).toArray, .agg (encV b).toArray] w fun r w' => r = .int .i64 (cmpV a b) ∧ Keep w w' := by
 refine X.enter Zf90 rfl Tryz.ntmps90 rfl<|Zs<|Zr<|Zc (X.boxE rfl rfl) rfl ?_
 rintro _ w1 ⟨rfl, hB1, hk1, hz1⟩
 refine Zc (X.boxE rfl rfl) rfl ?_
 rintro _ w2 ⟨rfl, hB2, hk2, hz2⟩
 refine Zoa rfl rfl<|Ze<|Zs<|Zb<|Zs<|Zr<|Zo (X.loadNB Zi88 Zs88 (hB1.keep hk2) rfl rfl rfl) rfl<|Zo (X.loadNB Zi88 Zs88 hB2 rfl rfl rfl) rfl ?_
 refine X.opw X.wN rfl (X.eqA eqV_guard rfl rfl (eqV a b _)) ?_
 refine Zoao rfl rfl<|Ze<|X.condB rfl (fun hc => ?_) (fun hc => ?_)
 ·refine Zs<|Zr<|Zoa rfl rfl<|Ze<|X.ret1 (v := (.int .i64 _)) Zf90 Zr90 rfl ?_
  exact ⟨by congr 1; simp_all [cmpV] <;> omega, (hk1.trans hk2)⟩
 ·refine Zs<|Zr<|Zo (X.fldB (j := 0) Zu88 rfl rfl Zs86 rfl) rfl<|Zo (X.load1B Zi86 (hB1.keep hk2) rfl rfl) rfl<|Zo (X.fldB (j := 0) Zu88 rfl rfl Zs86 rfl) rfl<|Zo (X.load1B Zi86 hB2 rfl rfl) rfl<|X.opP X.wN rfl rfl (X.lss rfl rfl) (fun h14 => ?_) (fun h14 => ?_)
  ·refine Zomt rfl rfl<|Zp rfl rfl rfl<|Zp rfl rfl rfl<|Zp rfl rfl rfl<|Zp rfl rfl rfl<|Zp rfl rfl rfl<|Zp rfl rfl rfl<|Zu rfl rfl rfl<|Zu rfl rfl rfl<|Zu rfl rfl rfl<|Zu rfl rfl rfl<|Zu rfl rfl rfl<|Zu rfl rfl rfl<|Zu rfl rfl rfl<|Zu rfl rfl rfl<|Zu rfl rfl rfl<|Zu rfl rfl rfl<|Zu rfl rfl rfl<|Zu rfl rfl rfl<|Zu rfl rfl rfl<|Zu rfl rfl rfl<|Zu rfl rfl rfl<|Zu rfl rfl rfl<|Zu rfl rfl rfl<|Zu rfl rfl rfl<|Zu rfl rfl rfl<|Zp rfl rfl rfl<|Zo (ZdTt rfl rfl) rfl<|Zoat rfl rfl<|Ze<|Zt rfl<|Zs<|Zr<|Zoa rfl rfl<|Ze<|X.ret1 (v := (.int .i64 _)) Zf90 Zr90 rfl ?_
   exact ⟨by congr 1; simp_all [cmpV] <;> omega, (hk1.trans hk2)⟩
  ·refine Zomf rfl rfl<|Zg (X.fldB (j := 0) Zu88 rfl rfl Zs86 rfl) rfl rfl rfl rfl<|Zg (X.load1B Zi86 (hB1.keep hk2) rfl rfl) rfl rfl rfl rfl<|Zg (X.fldB (j := 0) Zu88 rfl rfl Zs86 rfl) rfl rfl rfl rfl<|Zg (X.load1B Zi86 hB2 rfl rfl) rfl rfl rfl rfl<|X.opP (X.wG rfl rfl rfl) rfl rfl (X.eqI rfl rfl) (fun h20 => ?_) (fun h20 => ?_)
   ·refine Zg (Zdmt rfl) rfl rfl rfl rfl<|Zg (X.fldB (j := 1) Zu88 rfl rfl Zs2 rfl) rfl rfl rfl rfl<|Zg (X.load1B Zi2 (hB1.keep hk2) rfl rfl) rfl rfl rfl rfl<|Zg (X.fldB (j := 1) Zu88 rfl rfl Zs2 rfl) rfl rfl rfl rfl<|Zg (X.load1B Zi2 hB2 rfl rfl) rfl rfl rfl rfl<|X.opP (X.wG rfl rfl rfl) rfl rfl (X.lss rfl rfl) (fun h26 => ?_) (fun h26 => ?_)
    ·refine Zg (Zdmt rfl) rfl rfl rfl rfl<|Zp rfl rfl rfl<|Zp rfl rfl rfl<|Zp rfl rfl rfl<|Zp rfl rfl rfl<|Zp rfl rfl rfl<|Zp rfl rfl rfl<|Zu rfl rfl rfl<|Zu rfl rfl rfl<|Zu rfl rfl rfl<|Zu rfl rfl rfl<|Zu rfl rfl rfl<|Zp rfl rfl rfl<|Zg (ZdTt rfl rfl) rfl rfl rfl rfl<|Zg (ZdTt rfl rfl) rfl rfl rfl rfl<|Zo (ZdFt rfl rfl) rfl<|Zoat rfl rfl<|Ze<|Zt rfl<|Zs<|Zr<|Zoa rfl rfl<|Ze<|X.ret1 (v := (.int .i64 _)) Zf90 Zr90 rfl ?_
     exact ⟨by congr 1; simp_all [cmpV] <;> omega, (hk1.trans hk2)⟩
    ·refine Zg (Zdmf rfl) rfl rfl rfl rfl<|Zg (X.fldB (j := 1) Zu88 rfl rfl Zs2 rfl) rfl rfl rfl rfl<|Zg (X.load1B Zi2 (hB1.keep hk2) rfl rfl) rfl rfl rfl rfl<|Zg (X.fldB (j := 1) Zu88 rfl rfl Zs2 rfl) rfl rfl rfl rfl<|Zg (X.load1B Zi2 hB2 rfl rfl) rfl rfl rfl rfl<|X.opP (X.wG rfl rfl rfl) rfl rfl (X.eqI rfl rfl) (fun h32 => ?_) (fun h32 => ?_)
     ·refine Zg (Zdmt rfl) rfl rfl rfl rfl<|Zg (X.fldB (j := 2) Zu88 rfl rfl Zs9 rfl) rfl rfl rfl rfl<|Zg (X.load1B Zi9 (hB1.keep hk2) rfl rfl) rfl rfl rfl rfl<|Zg (X.fldB (j := 2) Zu88 rfl rfl Zs9 rfl) rfl rfl rfl rfl<|Zg (X.load1B Zi9 hB2 rfl rfl) rfl rfl rfl rfl<|X.opB (X.wG rfl rfl rfl) rfl rfl (X.ltD rfl rfl) (fun h38 => ?_) (fun h38 => ?_)
      ·refine Zg (ZdTt rfl rfl) rfl rfl rfl rfl<|Zg (ZdFt rfl rfl) rfl rfl rfl rfl<|Zg (ZdTt rfl rfl) rfl rfl rfl rfl<|Zo (ZdFt rfl rfl) rfl<|Zoat rfl rfl<|Ze<|Zt rfl<|Zs<|Zr<|Zoa rfl rfl<|Ze<|X.ret1 (v := (.int .i64 _)) Zf90 Zr90 rfl ?_
       exact ⟨by congr 1; simp_all [cmpV] <;> omega, (hk1.trans hk2)⟩
      ·refine Zg (ZdTf rfl rfl) rfl rfl rfl rfl<|Zg (ZdFf rfl rfl) rfl rfl rfl rfl<|Zg (ZdTf rfl rfl) rfl rfl rfl rfl<|Zo (ZdFf rfl rfl) rfl<|Zoaf rfl rfl<|Ze<|Zf rfl<|Zk<|Zi<|Zs<|Zr<|Zoa rfl rfl<|Ze<|X.ret1 (v := (.int .i64 _)) Zf90 Zr90 rfl ?_
       exact ⟨by congr 1; simp_all [cmpV] <;> omega, (hk1.trans hk2)⟩
     ·refine Zg (Zdmf rfl) rfl rfl rfl rfl<|Zp rfl rfl rfl<|Zp rfl rfl rfl<|Zp rfl rfl rfl<|Zp rfl rfl rfl<|Zp rfl rfl rfl<|Zg (ZdFf rfl rfl) rfl rfl rfl rfl<|Zg (ZdFf rfl rfl) rfl rfl rfl rfl<|Zg (ZdTf rfl rfl) rfl rfl rfl rfl<|Zo (ZdFf rfl rfl) rfl<|Zoaf rfl rfl<|Ze<|Zf rfl<|Zk<|Zi<|Zs<|Zr<|Zoa rfl rfl<|Ze<|X.ret1 (v := (.int .i64 _)) Zf90 Zr90 rfl ?_
      exact ⟨by congr 1; simp_all [cmpV] <;> omega, (hk1.trans hk2)⟩
   ·refine Zg (Zdmf rfl) rfl rfl rfl rfl<|Zp rfl rfl rfl<|Zp rfl rfl rfl<|Zp rfl rfl rfl<|Zp rfl rfl rfl<|Zp rfl rfl rfl<|Zp rfl rfl rfl<|Zu rfl rfl rfl<|Zu rfl rfl rfl<|Zu rfl rfl rfl<|Zu rfl rfl rfl<|Zu rfl rfl rfl<|Zu rfl rfl rfl<|Zu rfl rfl rfl<|Zu rfl rfl rfl<|Zu rfl rfl rfl<|Zu rfl rfl rfl<|Zu rfl rfl rfl<|Zu rfl rfl rfl<|Zp rfl rfl rfl<|Zg (ZdFf rfl rfl) rfl rfl rfl rfl<|Zo (ZdFf rfl rfl) rfl<|Zoaf rfl rfl<|Ze<|Zf rfl<|Zk<|Zi<|Zs<|Zr<|Zoa rfl rfl<|Ze<|X.ret1 (v := (.int .i64 _)) Zf90 Zr90 rfl ?_
    exact ⟨by congr 1; simp_all [cmpV] <;> omega, (hk1.trans hk2)⟩
theorem cmp_end {l1 l2 : List VAL} {i : Nat} (h1 : i ≤ l1.length) (h2 : i ≤ l2.length) (h : i = l1.length ∨ i = l2.length) : cmpT (l1.drop i) (l2.drop i) = if l1.length < l2.length then -1 else if l2.length < l1.length then 1 else 0 := by
  have e1 : (l1.drop i).length = l1.length - i := List.length_drop
  have e2 : (l2.drop i).length = l2.length - i := List.length_drop
  generalize l1.drop i = x at *
  generalize l2.drop i = y at *
  cases x <;> cases y <;> simp only [List.length_cons, List.length_nil] at e1 e2 <;> unfold cmpT
  · rw [if_neg Zz, if_neg Zz]
  · rw [if_pos Zz]
  · rw [if_neg Zz, if_pos Zz]
  · omega
theorem R02Compare_c {lo1 hi1 lo2 hi2 : Nat} {A1 A2 : Option Addr} {n1 n2 c1 c2 : Nat} {l1 l2 : List VAL} (w : World) (hs1 : Sl KV lo1 hi1 w A1 n1 l1) (hs2 : Sl KV lo2 hi2 w A2 n2 l2) : Ret Tryz.prog 43 #[.slice A1 n1 c1, .slice A2 n2 c2] w fun r w' => r = .int .i64 (cmpT l1 l2) ∧ Keep w w' := by
 have hn1 := hs1.bound
 have hl1 := hs1.len
 have hn2 := hs2.bound
 have hl2 := hs2.len
 refine X.enter Zf43 rfl Tryz.ntmps43 rfl<|Zs<|Zr<|Zoa rfl rfl<|Ze<|Zs<|Zs<|Zr<|Zoa rfl rfl<|Ze<|Zb<|X.loopL (σ := Nat) (fun s => [(0, .slice A1 n1 c1), (1, .slice A2 n2 c2), (5, .int .i64 (s : Int))]) (fun s w' => s ≤ n1 ∧ s ≤ n2 ∧ cmpT (l1.drop s) (l2.drop s) = cmpT l1 l2 ∧ Keep w w') (fun s => n1 - s) 0 ⟨rfl, rfl, rfl, trivial⟩ ⟨Nat.zero_le _, Nat.zero_le _, rfl, (Keep.refl _)⟩ ?_
 rintro i b w1 ⟨hi1, hi2, hcm, hk⟩ hback
 have hk' := hk.size
 refine Zs<|Zs<|Zr<|Zomi rfl rfl<|Zoms rfl rfl<|Zo (X.lenSl Zu90 rfl) rfl<|X.opP X.wN rfl rfl (X.lss rfl rfl) (fun h10 => ?_) (fun h10 => ?_)
 ·refine Zomt rfl rfl<|Zg (Zdmi rfl) rfl rfl rfl rfl<|Zg (Zdms rfl) rfl rfl rfl rfl<|Zg (X.lenSl Zu90 rfl) rfl rfl rfl rfl<|X.opP (X.wG rfl rfl rfl) rfl rfl (X.lss rfl rfl) (fun h15 => ?_) (fun h15 => ?_)
  ·obtain ⟨x, hx⟩ := getN i hl1 h10
   obtain ⟨y, hy⟩ := getN i hl2 h15
   rw [drop_at hx, drop_at hy, cmpT] at hcm
   refine Zo (ZdTt rfl rfl) rfl<|Ze<|Zt rfl<|Zk<|Zs<|Zb<|Zs<|X.regionD (fun _ => False) 9 Zl Zl (fun w1 hk1 hz1 => ?_)
   refine ZDc 0 rfl Zl (Zdms rfl)<|ZDc 1 rfl Zl (Zdmi rfl)<|ZD 2 rfl Zl (fun w' hk' => X.idxS (hs1.keep ((hk.trans hk1).trans hk')) Zu90 Zs88 rfl rfl ⟨by omega, by omega⟩)<|ZD 3 rfl Zl (fun w' hk' => X.loadSN Zi88 Zs88 (hs1.keep ((hk.trans hk1).trans hk')) hx rfl (fun _ h => h.1) rfl)<|ZDc 4 rfl Zl (Zdms rfl)<|ZDc 5 rfl Zl (Zdmi rfl)<|ZD 6 rfl Zl (fun w' hk' => X.idxS (hs2.keep ((hk.trans hk1).trans hk')) Zu90 Zs88 rfl rfl ⟨by omega, by omega⟩)<|ZD 7 rfl Zl (fun w' hk' => X.loadSN Zi88 Zs88 (hs2.keep ((hk.trans hk1).trans hk')) hy rfl (fun _ h => h.1) rfl)<|X.dE (i := 8) Zl rfl (X.dwN rfl) (X.callE (R01Compare_c x y _) Tryz.call90 rfl rfl) (by rintro _ w2 ⟨rfl, hk2⟩ _; exact hk2.mono (fun _ _ h => h.elim)) ?_
   rintro _ w2 ⟨rfl, hk2⟩
   have hk2' := hk2.size
   refine X.dStep (i := 9) Zl rfl (X.dwN rfl) (X.assign (v := .int .i64 _) rfl) (fun h => absurd h (by decide))<|Zdend Zl<|Zs<|Zr<|Zomi rfl rfl<|X.opP X.wN rfl rfl (X.neI rfl rfl) (fun h29 => ?_) (fun h29 => ?_)
   ·refine Ze<|Zt rfl<|Zs<|Zr<|Zomi rfl rfl<|Zoai rfl rfl<|Ze<|X.ret1 (v := (.int .i64 _)) Zf43 Zr43 rfl ?_
    exact ⟨by rw [if_pos h29] at hcm; rw [hcm], ((hk.trans hk1).trans hk2)⟩
   ·refine Ze<|Zf rfl<|Zk<|Zi<|Zr<|Zomi rfl rfl<|Zo (X.add rfl rfl (X.w_i64 Zz)) rfl<|Zoai rfl rfl<|Ze ?_
    refine hback (i + 1) _ _ ⟨rfl, rfl, rfl, trivial⟩ ⟨by omega, by omega, by rw [if_neg h29] at hcm; exact hcm, ((hk.trans hk1).trans hk2)⟩ Zz
  ·refine Zo (ZdTf rfl rfl) rfl<|Ze<|Zf rfl<|Zx rfl<|Zs<|Zb<|Zs<|Zr<|Zoms rfl rfl<|Zo (X.lenSl Zu90 rfl) rfl<|Zoms rfl rfl<|Zo (X.lenSl Zu90 rfl) rfl<|X.opP X.wN rfl rfl (X.lss rfl rfl) (fun h36 => ?_) (fun h36 => ?_)
   ·refine Zoat rfl rfl<|Ze<|Zt rfl<|Zs<|Zr<|Zoa rfl rfl<|Ze<|X.ret1 (v := (.int .i64 _)) Zf43 Zr43 rfl ?_
    exact ⟨by congr 1; rw [← hcm, cmp_end Zz Zz Zz]; (repeat' split) <;> omega, hk⟩
   ·refine Zoaf rfl rfl<|Ze<|Zf rfl<|Zs<|Zr<|Zoms rfl rfl<|Zo (X.lenSl Zu90 rfl) rfl<|Zoms rfl rfl<|Zo (X.lenSl Zu90 rfl) rfl<|X.opP X.wN rfl rfl (X.gtr rfl rfl) (fun h42 => ?_) (fun h42 => ?_)
    ·refine Zoat rfl rfl<|Ze<|Zt rfl<|Zs<|Zr<|Zoa rfl rfl<|Ze<|X.ret1 (v := (.int .i64 _)) Zf43 Zr43 rfl ?_
     exact ⟨by congr 1; rw [← hcm, cmp_end Zz Zz Zz]; (repeat' split) <;> omega, hk⟩
    ·refine Zoaf rfl rfl<|Ze<|Zf rfl<|Zk<|Zi<|Zs<|Zr<|Zoa rfl rfl<|Ze<|X.ret1 (v := (.int .i64 _)) Zf43 Zr43 rfl ?_
     exact ⟨by congr 1; rw [← hcm, cmp_end Zz Zz Zz]; (repeat' split) <;> omega, hk⟩
 ·refine Zomf rfl rfl<|Zp rfl rfl rfl<|Zp rfl rfl rfl<|Zp rfl rfl rfl<|Zp rfl rfl rfl<|Zo (ZdFf rfl rfl) rfl<|Ze<|Zf rfl<|Zx rfl<|Zs<|Zb<|Zs<|Zr<|Zoms rfl rfl<|Zo (X.lenSl Zu90 rfl) rfl<|Zoms rfl rfl<|Zo (X.lenSl Zu90 rfl) rfl<|X.opP X.wN rfl rfl (X.lss rfl rfl) (fun h36 => ?_) (fun h36 => ?_)
  ·refine Zoat rfl rfl<|Ze<|Zt rfl<|Zs<|Zr<|Zoa rfl rfl<|Ze<|X.ret1 (v := (.int .i64 _)) Zf43 Zr43 rfl ?_
   exact ⟨by congr 1; rw [← hcm, cmp_end Zz Zz Zz]; (repeat' split) <;> omega, hk⟩
  ·refine Zoaf rfl rfl<|Ze<|Zf rfl<|Zs<|Zr<|Zoms rfl rfl<|Zo (X.lenSl Zu90 rfl) rfl<|Zoms rfl rfl<|Zo (X.lenSl Zu90 rfl) rfl<|X.opP X.wN rfl rfl (X.gtr rfl rfl) (fun h42 => ?_) (fun h42 => ?_)
   ·refine Zoat rfl rfl<|Ze<|Zt rfl<|Zs<|Zr<|Zoa rfl rfl<|Ze<|X.ret1 (v := (.int .i64 _)) Zf43 Zr43 rfl ?_
    exact ⟨by congr 1; rw [← hcm, cmp_end Zz Zz Zz]; (repeat' split) <;> omega, hk⟩
   ·refine Zoaf rfl rfl<|Ze<|Zf rfl<|Zk<|Zi<|Zs<|Zr<|Zoa rfl rfl<|Ze<|X.ret1 (v := (.int .i64 _)) Zf43 Zr43 rfl ?_
    exact ⟨by congr 1; rw [← hcm, cmp_end Zz Zz Zz]; (repeat' split) <;> omega, hk⟩
theorem less_irr : ∀ x : List UInt8, Op.bytesLess x x = false
  | [] => rfl
  | a :: x => by rw [Op.bytesLess, less_irr x]; simp
theorem less_tri : ∀ x y : List UInt8, Op.bytesLess x y = false → Op.bytesLess y x = false → x = y
  | [], [], _, _ => rfl
  | [], b :: y, h, _ => by simp [Op.bytesLess] at h
  | a :: x, [], _, h => by simp [Op.bytesLess] at h
  | a :: x, b :: y, h1, h2 => by
    simp only [Op.bytesLess, Bool.or_eq_false_iff, decide_eq_false_iff_not, Bool.and_eq_false_iff, beq_eq_false_iff_ne] at h1 h2
    have e : a = b := UInt8.le_antisymm (UInt8.not_lt.1 h2.1) (UInt8.not_lt.1 h1.1)
    subst e
    rw [less_tri x y (h1.2.resolve_left (fun h => h rfl)) (h2.2.resolve_left (fun h => h rfl))]
theorem data_inj {a b : ByteArray} (h : a.data.toList = b.data.toList) : a = b := by
  obtain ⟨⟨a⟩⟩ := a
  obtain ⟨⟨b⟩⟩ := b
  simp at h; subst h; rfl
theorem cmpS_0 {a b : ByteArray} (h1 : ¬ Op.bytesLess a.data.toList b.data.toList = true) (h2 : ¬ Op.bytesLess b.data.toList a.data.toList = true) : a = b :=
  data_inj (less_tri _ _ (by simpa using h1) (by simpa using h2))
theorem isNaNKind_c (a : Int) (w : World) : Ret Tryz.prog 183 #[.int .i64 a] w fun r w' => r = .bool false ∧ Keep w w' := by
 refine X.enter Tryz.func183 rfl Tryz.ntmps183 rfl<|Zs<|Zr<|Zoa rfl rfl<|Ze<|Zs<|Zr<|Zomi rfl rfl<|Zomi rfl rfl<|Zo (X.neI rfl rfl) rfl<|Zoao rfl rfl<|Ze<|X.ret1 (v := (.bool _)) Tryz.func183 Tryz.results183 rfl ?_
 exact ⟨by simp, (Keep.refl _)⟩
theorem isNaNNum_c (a : Int) (w : World) : Ret Tryz.prog 184 #[.int .i64 a] w fun r w' => r = .bool false ∧ Keep w w' := by
 refine X.enter Tryz.func184 rfl Tryz.ntmps184 rfl<|Zs<|Zr<|Zoa rfl rfl<|Ze<|Zs<|Zr<|Zomi rfl rfl<|Zomi rfl rfl<|Zo (X.neI rfl rfl) rfl<|Zoao rfl rfl<|Ze<|X.ret1 (v := (.bool _)) Tryz.func184 Tryz.results184 rfl ?_
 exact ⟨by simp, (Keep.refl _)⟩
theorem isNaNStr_c (a : ByteArray) (w : World) : Ret Tryz.prog 185 #[.string a] w fun r w' => r = .bool false ∧ Keep w w' := by
 refine X.enter Tryz.func185 rfl Tryz.ntmps185 rfl<|Zs<|Zr<|Zoa rfl rfl<|Ze<|Zs<|Zr<|Zomg rfl rfl<|Zomg rfl rfl<|Zo (X.neD rfl rfl) rfl<|Zoao rfl rfl<|Ze<|X.ret1 (v := (.bool _)) Tryz.func185 Tryz.results185 rfl ?_
 exact ⟨by simp, (Keep.refl _)⟩
def cmp3 (a b : Int) : Int := if a < b then -1 else if b < a then 1 else 0
def cmpS (a b : ByteArray) : Int := if Op.bytesLess a.data.toList b.data.toList then -1 else if Op.bytesLess b.data.toList a.data.toList then 1 else 0
def orI : List Int → Int
  | [] => 0
  | x :: l => if x ≠ 0 then x else orI l
theorem cmp3_ok (a b : Int) : okI (cmp3 a b) := by unfold cmp3 okI; (repeat' split) <;> omega
theorem cmpS_ok (a b : ByteArray) : okI (cmpS a b) := by unfold cmpS okI; (repeat' split) <;> omega
theorem cmpKind_c (a b : Int) (w : World) : Ret Tryz.prog 165 #[.int .i64 a, .int .i64 b] w fun r w' => r = .int .i64 (cmp3 a b) ∧ Keep w w' := by
 refine X.enter Zf165 rfl Tryz.ntmps165 rfl<|Zs<|Zr<|Zoa rfl rfl<|Ze<|Zs<|Zr<|Zomi rfl rfl<|Zc (X.callE (isNaNKind_c _ _) Tryz.call183 rfl rfl) rfl ?_
 rintro _ w1 ⟨rfl, hk1⟩
 have hk1' := hk1.size
 refine Zoao rfl rfl<|Ze<|Zs<|Zr<|Zomi rfl rfl<|Zc (X.callE (isNaNKind_c _ _) Tryz.call183 rfl rfl) rfl ?_
 rintro _ w2 ⟨rfl, hk2⟩
 have hk2' := hk2.size
 refine Zoao rfl rfl<|Ze<|Zs<|Zs<|Zr<|Zomo rfl rfl<|Ze<|X.condB rfl (fun hc => ?_) (fun hc => ?_)
 ·cases hc
 ·refine Zk<|Zs<|Zs<|Zr<|Zomo rfl rfl<|Ze<|X.condB rfl (fun hd => ?_) (fun hd => ?_)
  ·cases hd
  ·refine Zk<|Zs<|Zs<|Zr<|Zomi rfl rfl<|Zomi rfl rfl<|X.opP X.wN rfl rfl (X.lss rfl rfl) (fun h16 => ?_) (fun h16 => ?_)
   ·refine Ze<|Zt rfl<|Zs<|Zr<|Zoa rfl rfl<|Ze<|X.ret1 (v := (.int .i64 _)) Zf165 Zr165 rfl ?_
    exact ⟨by congr 1; unfold cmp3; (repeat' split) <;> omega, (hk1.trans hk2)⟩
   ·refine Ze<|Zf rfl<|Zk<|Zs<|Zs<|Zr<|Zomi rfl rfl<|Zomi rfl rfl<|X.opP X.wN rfl rfl (X.gtr rfl rfl) (fun h19 => ?_) (fun h19 => ?_)
    ·refine Ze<|Zt rfl<|Zs<|Zr<|Zoa rfl rfl<|Ze<|X.ret1 (v := (.int .i64 _)) Zf165 Zr165 rfl ?_
     exact ⟨by congr 1; unfold cmp3; (repeat' split) <;> omega, (hk1.trans hk2)⟩
    ·refine Ze<|Zf rfl<|Zk<|Zs<|Zr<|Zoa rfl rfl<|Ze<|X.ret1 (v := (.int .i64 _)) Zf165 Zr165 rfl ?_
     exact ⟨by congr 1; unfold cmp3; (repeat' split) <;> omega, (hk1.trans hk2)⟩
theorem cmpNum_c (a b : Int) (w : World) : Ret Tryz.prog 166 #[.int .i64 a, .int .i64 b] w fun r w' => r = .int .i64 (cmp3 a b) ∧ Keep w w' := by
 refine X.enter Zf166 rfl Tryz.ntmps166 rfl<|Zs<|Zr<|Zoa rfl rfl<|Ze<|Zs<|Zr<|Zomi rfl rfl<|Zc (X.callE (isNaNNum_c _ _) Tryz.call184 rfl rfl) rfl ?_
 rintro _ w1 ⟨rfl, hk1⟩
 have hk1' := hk1.size
 refine Zoao rfl rfl<|Ze<|Zs<|Zr<|Zomi rfl rfl<|Zc (X.callE (isNaNNum_c _ _) Tryz.call184 rfl rfl) rfl ?_
 rintro _ w2 ⟨rfl, hk2⟩
 have hk2' := hk2.size
 refine Zoao rfl rfl<|Ze<|Zs<|Zs<|Zr<|Zomo rfl rfl<|Ze<|X.condB rfl (fun hc => ?_) (fun hc => ?_)
 ·cases hc
 ·refine Zk<|Zs<|Zs<|Zr<|Zomo rfl rfl<|Ze<|X.condB rfl (fun hd => ?_) (fun hd => ?_)
  ·cases hd
  ·refine Zk<|Zs<|Zs<|Zr<|Zomi rfl rfl<|Zomi rfl rfl<|X.opP X.wN rfl rfl (X.lss rfl rfl) (fun h16 => ?_) (fun h16 => ?_)
   ·refine Ze<|Zt rfl<|Zs<|Zr<|Zoa rfl rfl<|Ze<|X.ret1 (v := (.int .i64 _)) Zf166 Zr166 rfl ?_
    exact ⟨by congr 1; unfold cmp3; (repeat' split) <;> omega, (hk1.trans hk2)⟩
   ·refine Ze<|Zf rfl<|Zk<|Zs<|Zs<|Zr<|Zomi rfl rfl<|Zomi rfl rfl<|X.opP X.wN rfl rfl (X.gtr rfl rfl) (fun h19 => ?_) (fun h19 => ?_)
    ·refine Ze<|Zt rfl<|Zs<|Zr<|Zoa rfl rfl<|Ze<|X.ret1 (v := (.int .i64 _)) Zf166 Zr166 rfl ?_
     exact ⟨by congr 1; unfold cmp3; (repeat' split) <;> omega, (hk1.trans hk2)⟩
    ·refine Ze<|Zf rfl<|Zk<|Zs<|Zr<|Zoa rfl rfl<|Ze<|X.ret1 (v := (.int .i64 _)) Zf166 Zr166 rfl ?_
     exact ⟨by congr 1; unfold cmp3; (repeat' split) <;> omega, (hk1.trans hk2)⟩
theorem cmpStr_c (a b : ByteArray) (w : World) : Ret Tryz.prog 167 #[.string a, .string b] w fun r w' => r = .int .i64 (cmpS a b) ∧ Keep w w' := by
 refine X.enter Zf167 rfl Tryz.ntmps167 rfl<|Zs<|Zr<|Zoa rfl rfl<|Ze<|Zs<|Zr<|Zomg rfl rfl<|Zc (X.callE (isNaNStr_c _ _) Tryz.call185 rfl rfl) rfl ?_
 rintro _ w1 ⟨rfl, hk1⟩
 have hk1' := hk1.size
 refine Zoao rfl rfl<|Ze<|Zs<|Zr<|Zomg rfl rfl<|Zc (X.callE (isNaNStr_c _ _) Tryz.call185 rfl rfl) rfl ?_
 rintro _ w2 ⟨rfl, hk2⟩
 have hk2' := hk2.size
 refine Zoao rfl rfl<|Ze<|Zs<|Zs<|Zr<|Zomo rfl rfl<|Ze<|X.condB rfl (fun hc => ?_) (fun hc => ?_)
 ·cases hc
 ·refine Zk<|Zs<|Zs<|Zr<|Zomo rfl rfl<|Ze<|X.condB rfl (fun hd => ?_) (fun hd => ?_)
  ·cases hd
  ·refine Zk<|Zs<|Zs<|Zr<|Zomg rfl rfl<|Zomg rfl rfl<|X.opB X.wN rfl rfl (X.ltD rfl rfl) (fun h16 => ?_) (fun h16 => ?_)
   ·refine Ze<|Zt rfl<|Zs<|Zr<|Zoa rfl rfl<|Ze<|X.ret1 (v := (.int .i64 _)) Zf167 Zr167 rfl ?_
    exact ⟨by congr 1; unfold cmpS; simp_all, (hk1.trans hk2)⟩
   ·refine Ze<|Zf rfl<|Zk<|Zs<|Zs<|Zr<|Zomg rfl rfl<|Zomg rfl rfl<|X.opB X.wN rfl rfl (X.gtD rfl rfl) (fun h19 => ?_) (fun h19 => ?_)
    ·refine Ze<|Zt rfl<|Zs<|Zr<|Zoa rfl rfl<|Ze<|X.ret1 (v := (.int .i64 _)) Zf167 Zr167 rfl ?_
     exact ⟨by congr 1; unfold cmpS; simp_all, (hk1.trans hk2)⟩
    ·refine Ze<|Zf rfl<|Zk<|Zs<|Zr<|Zoa rfl rfl<|Ze<|X.ret1 (v := (.int .i64 _)) Zf167 Zr167 rfl ?_
     exact ⟨by congr 1; unfold cmpS; simp_all, (hk1.trans hk2)⟩
theorem cmpOr_c {lo hi : Nat} {A : Option Addr} {n c : Nat} {l : List Int} (w : World) (hs : Sl KI lo hi w A n l) : Ret Tryz.prog 164 #[.slice A n c] w fun r w' => r = .int .i64 (orI l) ∧ Keep w w' := by
 have hn := hs.bound
 have hl := hs.len
 refine X.enter Tryz.func164 rfl Tryz.ntmps164 rfl<|Zs<|Zr<|Zoa rfl rfl<|Ze<|Zs<|Zr<|Zoa rfl rfl<|Ze<|Zs<|Zs<|Zr<|Zoms rfl rfl<|Zo (X.lenSl Zu22 rfl) rfl<|Zom rfl rfl<|Ze<|Zb<|X.loopL (σ := Nat) (fun s => [(3, .int .i64 0), (6, .slice A n c), (7, .int .i64 (n : Int)), (8, .int .i64 (s : Int))]) (fun s w' => s ≤ n ∧ orI (l.drop s) = orI l ∧ Keep w w') (fun s => n - s) 0 ⟨rfl, rfl, rfl, rfl, trivial⟩ ⟨Nat.zero_le _, rfl, (Keep.refl _)⟩ ?_
 rintro i b w1 ⟨hi1, hcm, hk⟩ hback
 have hk' := hk.size
 refine Zs<|Zr<|X.opP X.wN rfl rfl (X.lss rfl rfl) (fun h9 => ?_) (fun h9 => ?_)
 ·obtain ⟨x, hx⟩ := getN i hl h9
  rw [drop_at hx, orI] at hcm
  refine Ze<|Zs<|Zt rfl<|Zk<|Zs<|Zb<|Zs<|Zr<|Zo (X.idxS (hs.keep hk) Zu22 Zs3 rfl rfl ⟨by omega, by omega⟩) rfl<|Zo (X.loadS Zi3 (hs.keep hk) hx rfl (fun _ h => by rw [h.1]; rfl)) rfl ?_
  refine Zoai rfl rfl<|Ze<|Zs<|Zr<|Zomi rfl rfl<|Zomi rfl rfl<|X.opP X.wN rfl rfl (X.neI rfl rfl) (fun h14 => ?_) (fun h14 => ?_)
  ·refine Ze<|Zt rfl<|Zs<|Zr<|Zomi rfl rfl<|Zoai rfl rfl<|Ze<|X.ret1 (v := (.int .i64 _)) Tryz.func164 Tryz.results164 rfl ?_
   exact ⟨by rw [if_pos h14] at hcm; rw [hcm], hk⟩
  ·refine Ze<|Zf rfl<|Zk<|Zi<|Zr<|Zo (X.add rfl rfl (X.w_i64 Zz)) rfl<|Zomi rfl rfl<|Ze ?_
   refine hback (i + 1) _ _ ⟨rfl, rfl, rfl, rfl, trivial⟩ ⟨by omega, by rw [if_neg h14] at hcm; exact hcm, hk⟩ Zz
 ·refine Ze<|Zs<|Zf rfl<|Zx rfl<|Zs<|Zr<|Zomi rfl rfl<|Zoai rfl rfl<|Ze<|X.ret1 (v := (.int .i64 _)) Tryz.func164 Tryz.results164 rfl ?_
  exact ⟨by rw [← hcm, List.drop_of_length_le Zz]; rfl, hk⟩
theorem orI_cmp (a b : VAL) : orI [cmp3 a.1 b.1, cmp3 a.2.1 b.2.1, cmpS a.2.2 b.2.2] = cmpV a b := by
  obtain ⟨a1, a2, a3⟩ := a
  obtain ⟨b1, b2, b3⟩ := b
  simp only [orI, cmp3, cmpS, cmpV, Prod.mk.injEq]
  by_cases h1 : a1 < b1
  · have : ¬ a1 = b1 := by omega
    simp [h1, this]
  by_cases h2 : b1 < a1
  · have : ¬ a1 = b1 := by omega
    simp [h1, h2, this]
  have e : a1 = b1 := by omega
  subst e
  by_cases h3 : a2 < b2
  · have : ¬ a2 = b2 := by omega
    simp [h3, this]
  by_cases h4 : b2 < a2
  · have : ¬ a2 = b2 := by omega
    simp [h3, h4, this]
  have e : a2 = b2 := by omega
  subst e
  by_cases h5 : Op.bytesLess a3.data.toList b3.data.toList = true
  · have : ¬ a3 = b3 := fun e => by subst e; rw [less_irr] at h5; cases h5
    simp [h5, this]
  by_cases h6 : Op.bytesLess b3.data.toList a3.data.toList = true
  · have : ¬ a3 = b3 := fun e => by subst e; rw [less_irr] at h6; cases h6
    simp [h5, h6, this]
  have e := cmpS_0 h5 h6
  subst e
  simp [less_irr]
theorem reps3I {w : World} {x y z : Int} (hx : okI x) (hy : okI y) (hz : okI z) : RepsV KI w [x, y, z] [.int .i64 x, .int .i64 y, .int .i64 z] := ⟨⟨_, rfl, rfl, hx⟩, ⟨_, rfl, rfl, hy⟩, ⟨_, rfl, rfl, hz⟩, trivial⟩
theorem valueCompare_c (a b : VAL) (w : World) : Ret Tryz.prog 131 #[.agg (encV a).toArray, .agg (encV b).toArray] w fun r w' => r = .int .i64 (cmpV a b) ∧ Keep w w' := by
 refine X.enter Tryz.func131 rfl Tryz.ntmps131 rfl<|Zs<|Zr<|Zc (X.boxE rfl rfl) rfl ?_
 rintro _ w1 ⟨rfl, hB1, hk1, hz1⟩
 refine Zc (X.boxE rfl rfl) rfl ?_
 rintro _ w2 ⟨rfl, hB2, hk2, hz2⟩
 refine Zoa rfl rfl<|Ze<|Zs<|X.regionD (fun _ => False) 17 Zl Zl (fun w3 hk3 hz3 => ?_)
 refine ZDc 0 rfl Zl (X.fldB (j := 0) Zu88 rfl rfl Zs86 rfl)<|ZD 1 rfl Zl (fun w' hk' => X.load1B Zi86 (hB1.keep ((hk2.trans hk3).trans hk')) rfl rfl)<|ZDc 2 rfl Zl (X.fldB (j := 0) Zu88 rfl rfl Zs86 rfl)<|ZD 3 rfl Zl (fun w' hk' => X.load1B Zi86 (hB2.keep (hk3.trans hk')) rfl rfl)<|ZDc 5 rfl Zl (X.fldB (j := 1) Zu88 rfl rfl Zs2 rfl)<|ZD 6 rfl Zl (fun w' hk' => X.load1B Zi2 (hB1.keep ((hk2.trans hk3).trans hk')) rfl rfl)<|ZDc 7 rfl Zl (X.fldB (j := 1) Zu88 rfl rfl Zs2 rfl)<|ZD 8 rfl Zl (fun w' hk' => X.load1B Zi2 (hB2.keep (hk3.trans hk')) rfl rfl)<|ZDc 10 rfl Zl (X.fldB (j := 2) Zu88 rfl rfl Zs9 rfl)<|ZD 11 rfl Zl (fun w' hk' => X.load1B Zi9 (hB1.keep ((hk2.trans hk3).trans hk')) rfl rfl)<|ZDc 12 rfl Zl (X.fldB (j := 2) Zu88 rfl rfl Zs9 rfl)<|ZD 13 rfl Zl (fun w' hk' => X.load1B Zi9 (hB2.keep (hk3.trans hk')) rfl rfl)<|X.dE (i := 4) Zl rfl (X.dwN rfl) (X.callE (cmpKind_c _ _ _) Tryz.call165 rfl rfl) (by rintro _ w4 ⟨rfl, hk4⟩ _; exact hk4.mono (fun _ _ h => h.elim)) ?_
 rintro _ w4 ⟨rfl, hk4⟩
 have hk4' := hk4.size
 refine X.dE (i := 9) Zl rfl (X.dwN rfl) (X.callE (cmpNum_c _ _ _) Tryz.call166 rfl rfl) (by rintro _ w5 ⟨rfl, hk5⟩ _; exact hk5.mono (fun _ _ h => h.elim)) ?_
 rintro _ w5 ⟨rfl, hk5⟩
 have hk5' := hk5.size
 refine X.dE (i := 14) Zl rfl (X.dwN rfl) (X.callE (cmpStr_c _ _ _) Tryz.call167 rfl rfl) (by rintro _ w6 ⟨rfl, hk6⟩ _; exact hk6.mono (fun _ _ h => h.elim)) ?_
 rintro _ w6 ⟨rfl, hk6⟩
 have hk6' := hk6.size
 refine X.dE (i := 15) Zl rfl (X.dwN rfl) (X.litKF KI_flat (K := KI) (xs := [Operand.tmp 9, Operand.tmp 14, Operand.tmp 19]) (vs := [.int .i64 (cmp3 a.1 b.1), .int .i64 (cmp3 a.2.1 b.2.1), .int .i64 (cmpS a.2.2 b.2.2)]) (ys := [cmp3 a.1 b.1, cmp3 a.2.1 b.2.1, cmpS a.2.2 b.2.2]) Zu22 Zs3 Zv3 rfl rfl rfl rfl rfl (reps3I (cmp3_ok _ _) (cmp3_ok _ _) (cmpS_ok _ _))) (by rintro _ w7 ⟨rfl, hs7, hB7, hk7, hz7⟩ _; exact hk7.mono (fun _ _ h => h.elim)) ?_
 rintro _ w7 ⟨rfl, hs7, hB7, hk7, hz7⟩
 refine X.dE (i := 16) Zl rfl (X.dwN rfl) (X.callE (cmpOr_c _ hs7) Tryz.call164 rfl rfl) (by rintro _ w8 ⟨rfl, hk8⟩ _; exact hk8.mono (fun _ _ h => h.elim)) ?_
 rintro _ w8 ⟨rfl, hk8⟩
 have hk8' := hk8.size
 refine X.dStep (i := 17) Zl rfl (X.dwN rfl) (X.assign (v := .int .i64 _) rfl) (fun h => absurd h (by decide))<|Zdend Zl<|X.ret1 (v := (.int .i64 _)) Tryz.func131 Tryz.results131 rfl ?_
 exact ⟨by rw [orI_cmp], (((((((hk1.trans hk2).trans hk3).trans hk4).trans hk5).trans hk6).trans hk7).trans hk8)⟩
theorem CompareFunc_c {lo1 hi1 lo2 hi2 : Nat} {A1 A2 : Option Addr} {n1 n2 c1 c2 : Nat} {l1 l2 : List VAL} (w : World) (hs1 : Sl KV lo1 hi1 w A1 n1 l1) (hs2 : Sl KV lo2 hi2 w A2 n2 l2) : Ret Tryz.prog 130 #[.slice A1 n1 c1, .slice A2 n2 c2, .func (.func 131) #[] #[]] w fun r w' => r = .int .i64 (cmpT l1 l2) ∧ Keep w w' := by
 have hn1 := hs1.bound
 have hl1 := hs1.len
 have hn2 := hs2.bound
 have hl2 := hs2.len
 refine X.enter Zf130 rfl Tryz.ntmps130 rfl<|Zs<|Zr<|Zoa rfl rfl<|Ze<|Zs<|Zs<|Zr<|Zoms rfl rfl<|Zo (X.lenSl Zu90 rfl) rfl<|Zom rfl rfl<|Ze<|Zb<|X.loopL (σ := Nat) (fun s => [(0, .slice A1 n1 c1), (1, .slice A2 n2 c2), (2, .func (.func 131) #[] #[]), (11, .slice A1 n1 c1), (12, .int .i64 (n1 : Int)), (13, .int .i64 (s : Int))]) (fun s w' => s ≤ n1 ∧ s ≤ n2 ∧ cmpT (l1.drop s) (l2.drop s) = cmpT l1 l2 ∧ Keep w w') (fun s => n1 - s) 0 ⟨rfl, rfl, rfl, rfl, rfl, rfl, trivial⟩ ⟨Nat.zero_le _, Nat.zero_le _, rfl, (Keep.refl _)⟩ ?_
 rintro i b w1 ⟨hi1, hi2, hcm, hk⟩ hback
 have hk' := hk.size
 refine Zs<|Zr<|X.opP X.wN rfl rfl (X.lss rfl rfl) (fun h14 => ?_) (fun h14 => ?_)
 ·obtain ⟨x, hx⟩ := getN i hl1 h14
  refine Ze<|Zs<|Zt rfl<|Zk<|Zs<|Zb<|Zs<|Zr<|Zomi rfl rfl<|Zo (X.idxS (hs1.keep hk) Zu90 Zs88 rfl rfl ⟨by omega, by omega⟩) rfl<|Zo (X.loadSN Zi88 Zs88 (hs1.keep hk) hx rfl (fun _ h => h.1) rfl) rfl<|Zc (X.allocE Zv88 rfl) rfl ?_
  rintro _ w1 ⟨rfl, hB1, hk1, hz1⟩
  refine Zoai rfl rfl<|Zc (X.storeNE Zs88 hB1 rfl rfl rfl rfl (encV_one _)) rfl ?_
  rintro _ w2 ⟨hB2, hx2, hz2⟩
  refine Ze<|Zs<|Zs<|Zr<|Zomi rfl rfl<|Zoms rfl rfl<|Zo (X.lenSl Zu90 rfl) rfl<|X.opP X.wN rfl rfl (X.geq rfl rfl) (fun h21 => ?_) (fun h21 => ?_)
  ·refine Ze<|Zt rfl<|Zs<|Zr<|Zoa rfl rfl<|Ze<|X.ret1 (v := (.int .i64 _)) Zf130 Zr130 rfl ?_
   exact ⟨by congr 1; rw [← hcm, cmp_end Zz Zz Zz]; (repeat' split) <;> omega, ((hk.trans hk1).step hx2 zq34)⟩
  ·obtain ⟨y, hy⟩ := getN i hl2 Zz
   rw [drop_at hx, drop_at hy, cmpT] at hcm
   refine Ze<|Zf rfl<|Zk<|Zs<|Zr<|Zoms rfl rfl<|Zomi rfl rfl<|Zo (X.idxS (hs2.keep ((hk.trans hk1).step hx2 zq34)) Zu90 Zs88 rfl rfl ⟨by omega, by omega⟩) rfl ?_
   refine Zo (X.loadSN Zi88 Zs88 (hs2.keep ((hk.trans hk1).step hx2 zq34)) hy rfl (fun _ h => h.1) rfl) rfl ?_
   refine Zc (X.allocE Zv88 rfl) rfl ?_
   rintro _ w3 ⟨rfl, hB3, hk3, hz3⟩
   refine Zc (X.storeNE Zs88 hB3 rfl rfl rfl rfl (encV_one _)) rfl ?_
   rintro _ w4 ⟨hB4, hx4, hz4⟩
   refine Ze<|Zs<|Zr<|Zom rfl rfl<|Zo (X.loadNB Zi88 Zs88 (hB2.keep (hk3.step hx4 zq34)) rfl rfl rfl) rfl ?_
   refine Zo (X.loadNB Zi88 Zs88 hB4 rfl rfl rfl) rfl<|Zc ((YC.of_ret (args := [_, _]) (cap := []) (valueCompare_c x y _) Tryz.call131) _ _ _ _ _ _ _ _ _ rfl rfl) rfl ?_
   rintro _ w5 ⟨rfl, hk5⟩
   have hk5' := hk5.size
   refine Zoai rfl rfl<|Ze<|Zs<|Zr<|Zomi rfl rfl<|X.opP X.wN rfl rfl (X.neI rfl rfl) (fun h31 => ?_) (fun h31 => ?_)
   ·refine Ze<|Zt rfl<|Zs<|Zr<|Zomi rfl rfl<|Zoai rfl rfl<|Ze<|X.ret1 (v := (.int .i64 _)) Zf130 Zr130 rfl ?_
    exact ⟨by rw [if_pos h31] at hcm; rw [hcm], (((((hk.trans hk1).step hx2 zq34).trans hk3).step hx4 zq34).trans hk5)⟩
   ·refine Ze<|Zf rfl<|Zk<|Zi<|Zr<|Zo (X.add rfl rfl (X.w_i64 Zz)) rfl<|Zomi rfl rfl<|Ze ?_
    refine hback (i + 1) _ _ ⟨rfl, rfl, rfl, rfl, rfl, rfl, trivial⟩ ⟨by omega, by omega, by rw [if_neg h31] at hcm; exact hcm, (((((hk.trans hk1).step hx2 zq34).trans hk3).step hx4 zq34).trans hk5)⟩ Zz
 ·refine Ze<|Zs<|Zf rfl<|Zx rfl<|Zs<|Zs<|Zr<|Zoms rfl rfl<|Zo (X.lenSl Zu90 rfl) rfl<|Zoms rfl rfl<|Zo (X.lenSl Zu90 rfl) rfl<|X.opP X.wN rfl rfl (X.lss rfl rfl) (fun h38 => ?_) (fun h38 => ?_)
  ·refine Ze<|Zt rfl<|Zs<|Zr<|Zoa rfl rfl<|Ze<|X.ret1 (v := (.int .i64 _)) Zf130 Zr130 rfl ?_
   exact ⟨by congr 1; rw [← hcm, cmp_end Zz Zz Zz]; (repeat' split) <;> omega, hk⟩
  ·refine Ze<|Zf rfl<|Zk<|Zs<|Zr<|Zoa rfl rfl<|Ze<|X.ret1 (v := (.int .i64 _)) Zf130 Zr130 rfl ?_
   exact ⟨by congr 1; rw [← hcm, cmp_end Zz Zz Zz]; (repeat' split) <;> omega, hk⟩
theorem tupleCompare_c {lo1 hi1 lo2 hi2 : Nat} {A1 A2 : Option Addr} {n1 n2 c1 c2 : Nat} {l1 l2 : List VAL} (w : World) (hs1 : Sl KV lo1 hi1 w A1 n1 l1) (hs2 : Sl KV lo2 hi2 w A2 n2 l2) : Ret Tryz.prog 84 #[.slice A1 n1 c1, .slice A2 n2 c2] w fun r w' => r = .int .i64 (cmpT l1 l2) ∧ Keep w w' := by
 refine X.enter Tryz.func84 rfl Tryz.ntmps84 rfl<|Zs<|Zr<|Zoa rfl rfl<|Ze<|Zs<|Zr<|Zoms rfl rfl<|Zoms rfl rfl<|Zc (X.callE (CompareFunc_c _ hs1 hs2) Tryz.call130 rfl rfl) rfl ?_
 rintro _ w1 ⟨rfl, hk1⟩
 have hk1' := hk1.size
 refine Zoai rfl rfl<|Ze<|X.ret1 (v := (.int .i64 _)) Tryz.func84 Tryz.results84 rfl ?_
 exact ⟨rfl, hk1⟩
theorem less_trans : ∀ x y z : List UInt8, Op.bytesLess x y = true → Op.bytesLess y z = true → Op.bytesLess x z = true
  | [], [], _, h, _ => by simp [Op.bytesLess] at h
  | _ :: _, [], _, h, _ => by simp [Op.bytesLess] at h
  | _, _ :: _, [], _, h => by simp [Op.bytesLess] at h
  | [], _ :: _, _ :: _, _, _ => by simp [Op.bytesLess]
  | a :: x, b :: y, c :: z, h1, h2 => by
    simp only [Op.bytesLess, Bool.or_eq_true, decide_eq_true_eq, Bool.and_eq_true, beq_iff_eq] at h1 h2 ⊢
    rcases h1 with h1 | ⟨rfl, h1⟩
    · rcases h2 with h2 | ⟨rfl, h2⟩
      · exact .inl (UInt8.lt_trans h1 h2)
      · exact .inl h1
    · rcases h2 with h2 | ⟨rfl, h2⟩
      · exact .inl h2
      · exact .inr ⟨rfl, less_trans x y z h1 h2⟩
theorem cmpV_0 {a b : VAL} : cmpV a b = 0 ↔ a = b := by
  unfold cmpV
  by_cases h : a = b
  · simp [h]
  · rw [if_neg h]
    constructor
    · intro h2; split at h2 <;> cases h2
    · intro h2; exact absurd h2 h
def ltV (a b : VAL) : Prop := a.1 < b.1 ∨ a.1 = b.1 ∧ (a.2.1 < b.2.1 ∨ a.2.1 = b.2.1 ∧ Op.bytesLess a.2.2.data.toList b.2.2.data.toList = true)
instance (a b : VAL) : Decidable (ltV a b) := by unfold ltV; infer_instance
theorem ltV_irr {a : VAL} : ¬ ltV a a := by
  unfold ltV
  have := less_irr a.2.2.data.toList
  rintro (h | ⟨_, h | ⟨_, h⟩⟩)
  · omega
  · omega
  · rw [this] at h; cases h
theorem ltV_trans {a b c : VAL} (h1 : ltV a b) (h2 : ltV b c) : ltV a c := by
  unfold ltV at *
  rcases h1 with h1 | ⟨h1, h1' | ⟨h1', h1''⟩⟩ <;> rcases h2 with h2 | ⟨h2, h2' | ⟨h2', h2''⟩⟩
  · exact .inl Zz
  · exact .inl Zz
  · exact .inl Zz
  · exact .inl Zz
  · exact .inr ⟨by omega, .inl Zz⟩
  · exact .inr ⟨by omega, .inl Zz⟩
  · exact .inl Zz
  · exact .inr ⟨by omega, .inl Zz⟩
  · exact .inr ⟨by omega, .inr ⟨by omega, less_trans _ _ _ h1'' h2''⟩⟩
theorem cmpV_lt {a b : VAL} : cmpV a b < 0 ↔ ltV a b := by
  show (if a = b then (0 : Int) else if ltV a b then -1 else 1) < 0 ↔ _
  by_cases h : a = b
  · subst h; rw [if_pos rfl]; exact ⟨fun h => by omega, fun h => absurd h ltV_irr⟩
  · rw [if_neg h]; by_cases h2 : ltV a b
    · rw [if_pos h2]; exact ⟨fun _ => h2, fun _ => by omega⟩
    · rw [if_neg h2]; exact ⟨fun h => by omega, fun h => absurd h h2⟩
theorem cmpT_0 : ∀ l m : List VAL, cmpT l m = 0 ↔ l = m
  | [], [] => by simp [cmpT]
  | [], _ :: _ => by simp [cmpT]
  | _ :: _, [] => by simp [cmpT]
  | a :: l, b :: m => by
    rw [cmpT]
    by_cases h : cmpV a b = 0
    · rw [if_neg (by simpa using h), cmpT_0 l m, cmpV_0.1 h]; simp
    · rw [if_pos h]
      constructor
      · intro h2; exact absurd h2 h
      · intro h2; cases h2; exact absurd (cmpV_0.2 rfl) h
theorem cmpT_self (l : List VAL) : cmpT l l = 0 := (cmpT_0 l l).2 rfl
theorem cmpT_trans : ∀ l m n : List VAL, cmpT l m < 0 → cmpT m n < 0 → cmpT l n < 0
  | [], [], _, h, _ => by simp [cmpT] at h
  | _ :: _, [], _, h, _ => by simp [cmpT] at h
  | _, _ :: _, [], _, h => by simp [cmpT] at h
  | [], _ :: _, _ :: _, _, _ => by simp [cmpT]
  | a :: l, b :: m, c :: n, h1, h2 => by
    rw [cmpT] at h1 h2 ⊢
    by_cases e1 : cmpV a b = 0
    · rw [if_neg (by simpa using e1)] at h1
      have := cmpV_0.1 e1
      subst this
      by_cases e2 : cmpV a c = 0
      · rw [if_neg (by simpa using e2)] at h2 ⊢
        exact cmpT_trans l m n h1 h2
      · rw [if_pos e2] at h2 ⊢; exact h2
    · rw [if_pos e1] at h1
      by_cases e2 : cmpV b c = 0
      · have := cmpV_0.1 e2
        subst this
        rw [if_pos e1]; exact h1
      · rw [if_pos e2] at h2
        have h3 := cmpV_lt.2 (ltV_trans (cmpV_lt.1 h1) (cmpV_lt.1 h2))
        rw [if_pos Zz]; exact h3
theorem list_choose {α β : Type} : ∀ {l : List α} {Q : Nat → α → β → Prop}, (∀ j x, l[j]? = some x → ∃ y, Q j x y) → ∃ l' : List β, l'.length = l.length ∧ ∀ j x, l[j]? = some x → ∃ y, l'[j]? = some y ∧ Q j x y
  | [], _, _ => ⟨[], rfl, fun j x h => by simp at h⟩
  | a :: l, Q, h => by
    obtain ⟨b, hb⟩ := h 0 a rfl
    obtain ⟨l', h1, h2⟩ := list_choose (l := l) (Q := fun j x y => Q (j + 1) x y) (fun j x hx => h (j + 1) x (by simpa using hx))
    refine ⟨b :: l', by simp [h1], fun j x hx => ?_⟩
    cases j with
    | zero => simp at hx; subst hx; exact ⟨b, rfl, hb⟩
    | succ j => simp at hx; obtain ⟨y, g1, g2⟩ := h2 j x hx; exact ⟨y, by simpa using g1, g2⟩
abbrev HDR := Option Addr × Nat × Nat
abbrev CT := HDR × Int
abbrev evC (x : CT) : Value := .agg #[.slice x.1.1 x.1.2.1 x.1.2.2, .int .i64 x.2]
def KCt : Kd CT := Kd.plain 2 (fun x => [.slice x.1.1 x.1.2.1 x.1.2.2, .int .i64 x.2]) (fun _ => True) (fun _ => rfl) (fun _ u hu => by simp at hu; rcases hu with rfl | rfl <;> rfl)
theorem KCt_flat : Flat KCt := fun h => h
theorem repsC {w : World} (x : CT) : RepsV KCt w [x] [evC x] := ⟨⟨_, rfl, rfl, trivial⟩, trivial⟩
theorem ECt : ElemInfo Tryz.prog 92 2 32 := ElemInfo.of (z := .agg #[.slice none 0 0, .int .i64 0]) Zl rfl rfl rfl
abbrev CD := List VAL × Int
abbrev KC : Kd CD := Kd.pair (Kd.slice KV) KI
def Tups (TB : Nat → Prop) (w : World) : List CT → List CD → Prop
  | [], [] => True
  | x :: l, q :: pg => (x.2 = q.2 ∧ okI q.2 ∧ x.1.2.1 ≤ x.1.2.2 ∧ ∃ lo hi, (∀ k, lo ≤ k → k < hi → TB k) ∧ Sl KV lo hi w x.1.1 x.1.2.1 q.1) ∧ Tups TB w l pg
  | _, _ => False
section
variable {TB : Nat → Prop} {w w' : World}
theorem Tups.len : ∀ {l : List CT} {pg : List CD}, Tups TB w l pg → l.length = pg.length
  | [], [], _ => rfl
  | _ :: _, _ :: _, h => by simp [Tups.len h.2]
  | [], _ :: _, h => h.elim
  | _ :: _, [], h => h.elim
theorem Tups.ext {U : Nat → Prop} (x : Ext U w w') (hU : ∀ k, TB k → ¬ U k) : ∀ {l : List CT} {pg : List CD}, Tups TB w l pg → Tups TB w' l pg
  | [], [], _ => trivial
  | _ :: _, _ :: _, ⟨⟨h1, h2, h3, lo, hi, h4, h5⟩, h6⟩ => ⟨⟨h1, h2, h3, lo, hi, h4, h5.ext x fun k a b => hU k (h4 k a b)⟩, Tups.ext x hU h6⟩
  | [], _ :: _, h => h.elim
  | _ :: _, [], h => h.elim
theorem Tups.keep (x : Keep w w') {l : List CT} {pg : List CD} (h : Tups TB w l pg) : Tups TB w' l pg := Tups.ext x (fun _ _ h => h) h
theorem Tups.mono {TC : Nat → Prop} (hT : ∀ k, TB k → TC k) : ∀ {l : List CT} {pg : List CD}, Tups TB w l pg → Tups TC w l pg
  | [], [], _ => trivial
  | _ :: _, _ :: _, ⟨⟨h1, h2, h3, lo, hi, h4, h5⟩, h6⟩ => ⟨⟨h1, h2, h3, lo, hi, fun k a b => hT k (h4 k a b), h5⟩, Tups.mono hT h6⟩
  | [], _ :: _, h => h.elim
  | _ :: _, [], h => h.elim
theorem Tups.snoc {x : CT} {q : CD} (hx : x.2 = q.2 ∧ okI q.2 ∧ x.1.2.1 ≤ x.1.2.2 ∧ ∃ lo hi, (∀ k, lo ≤ k → k < hi → TB k) ∧ Sl KV lo hi w x.1.1 x.1.2.1 q.1) : ∀ {l : List CT} {pg : List CD}, Tups TB w l pg → Tups TB w (l ++ [x]) (pg ++ [q])
  | [], [], _ => ⟨hx, trivial⟩
  | _ :: _, _ :: _, h => ⟨h.1, Tups.snoc hx h.2⟩
  | [], _ :: _, h => h.elim
  | _ :: _, [], h => h.elim
theorem Tups.get : ∀ {l : List CT} {pg : List CD}, Tups TB w l pg → ∀ {i : Nat} {x : CT}, l[i]? = some x → ∃ q, pg[i]? = some q ∧ x.2 = q.2 ∧ okI q.2 ∧ x.1.2.1 ≤ x.1.2.2 ∧ ∃ lo hi, (∀ k, lo ≤ k → k < hi → TB k) ∧ Sl KV lo hi w x.1.1 x.1.2.1 q.1
  | [], [], _, i, x, h => by simp at h
  | y :: l, q :: pg, h, i, x, hx => by
    cases i with
    | zero => simp at hx; subst hx; exact ⟨q, rfl, h.1⟩
    | succ i => simp at hx; obtain ⟨q', h1, h2⟩ := Tups.get h.2 hx; exact ⟨q', by simpa using h1, h2⟩
  | [], _ :: _, h, _, _, _ => h.elim
  | _ :: _, [], h, _, _, _ => h.elim
theorem Tups.of_all : ∀ {l : List CT} {pg : List CD}, l.length = pg.length → (∀ (i : Nat) x q, l[i]? = some x → pg[i]? = some q → x.2 = q.2 ∧ okI q.2 ∧ x.1.2.1 ≤ x.1.2.2 ∧ ∃ lo hi, (∀ k, lo ≤ k → k < hi → TB k) ∧ Sl KV lo hi w x.1.1 x.1.2.1 q.1) → Tups TB w l pg
  | [], [], _, _ => trivial
  | x :: l, q :: pg, hl, h => ⟨h 0 x q rfl rfl, Tups.of_all (by simpa using hl) fun i x q h1 h2 => h (i + 1) x q (by simpa using h1) (by simpa using h2)⟩
  | [], _ :: _, hl, _ => by simp at hl
  | _ :: _, [], hl, _ => by simp at hl
theorem sl_tups {lo hi : Nat} {A : Option Addr} {n : Nat} {pg : List CD} (h : Sl KC lo hi w A n pg) : ∃ l, Sl KCt lo hi w A n l ∧ Tups (fun k => lo ≤ k ∧ k < hi) w l pg := by
  rcases Nat.eq_zero_or_pos n with hn | hn
  · subst hn
    have : pg = [] := List.eq_nil_of_length_eq_zero h.len
    subst this
    exact ⟨[], Sl.nil _ _ _ _ _, trivial⟩
  obtain ⟨ad, e, h1, h2, hc⟩ := h.at_ hn
  obtain ⟨l', q1, q2⟩ := list_choose (l := pg) (β := CT) (Q := fun j x y => (∀ i u, ([.slice y.1.1 y.1.2.1 y.1.2.2, .int .i64 y.2] : List Value)[i]? = some u → w.cell? (ad.add (j * 2 + i)) = some u) ∧ y.2 = x.2 ∧ okI x.2 ∧ y.1.2.1 ≤ y.1.2.2 ∧ Sl KV lo hi w y.1.1 y.1.2.1 x.1) (fun j x hx => by
    obtain ⟨cs, ⟨a, b, rfl, ⟨A', n', c', rfl, hnc, hs⟩, hb, hi'⟩, hq⟩ := hc j x hx
    subst hb
    exact ⟨((A', n', c'), x.2), fun i u hu => hq i u hu, rfl, hi', hnc, hs⟩)
  refine ⟨l', ⟨by rw [q1]; exact h.len, h.bound, fun _ => ⟨ad, e, h1, h2, fun j y hy => ?_⟩⟩, Tups.of_all q1 fun i x q hx hq => ?_⟩
  · have hj : j < pg.length := by rw [← q1]; exact (List.getElem?_eq_some_iff.1 hy).1
    obtain ⟨y', g1, g2, _⟩ := q2 j _ (List.getElem?_eq_getElem hj)
    rw [hy] at g1; cases g1
    exact ⟨_, ⟨rfl, trivial⟩, g2⟩
  · obtain ⟨y', g1, _, g2, g3, g4, g5⟩ := q2 i q hq
    rw [hx] at g1; cases g1
    exact ⟨g2, g3, g4, lo, hi, fun k a b => ⟨a, b⟩, g5⟩
theorem Tups.sl {lo hi : Nat} {A : Option Addr} {n : Nat} {l : List CT} {pg : List CD} (h : Sl KCt lo hi w A n l) (ht : Tups TB w l pg) (hT : ∀ k, TB k → lo ≤ k ∧ k < hi) : Sl KC lo hi w A n pg := by
  refine ⟨by rw [← ht.len]; exact h.len, h.bound, fun hn => ?_⟩
  obtain ⟨ad, e, h1, h2, hc⟩ := h.at_ hn
  refine ⟨ad, e, h1, h2, fun j q hq => ?_⟩
  obtain ⟨x, hx⟩ : ∃ x, l[j]? = some x := ⟨_, List.getElem?_eq_getElem (by rw [ht.len]; exact (List.getElem?_eq_some_iff.1 hq).1)⟩
  obtain ⟨q', g1, g2, g3, g4, lo', hi', g5, g6⟩ := ht.get hx
  rw [hq] at g1; cases g1
  obtain ⟨cs, ⟨hcs, _⟩, hq2⟩ := hc j x hx
  subst hcs
  refine ⟨[.slice x.1.1 x.1.2.1 x.1.2.2] ++ [.int .i64 x.2], ⟨_, _, rfl, ⟨_, _, _, rfl, g4, ?_⟩, by rw [g2], g3⟩, fun i u hu => by rw [show KC.sz = KCt.sz from rfl]; exact hq2 i u hu⟩
  refine ⟨g6.len, g6.bound, fun hn2 => ?_⟩
  obtain ⟨ad2, e2, a1, a2, a3⟩ := g6.at_ hn2
  have hb := hT _ (g5 _ a1 a2)
  exact ⟨ad2, e2, hb.1, hb.2, fun j y hy => by
    obtain ⟨cs, hr, hcc⟩ := a3 j y hy
    exact ⟨cs, KV_flat hr, hcc⟩⟩
end
def okPg (pg : List CD) : Prop := pg.length ≤ 1000000 ∧ ∀ q, q ∈ pg → q.1.length * 32 ≤ 140737488355328
def isV (v : VAL) : Bool := decide ((v.1 = 1 ∧ v.2.2 = ⟨#[]⟩) ∨ (v.1 = 2 ∧ v.2.1 = 0 ∧ v.2.2.size ≤ 256))
theorem E5 : ElemInfo Tryz.prog 5 1 1 := ElemInfo.of (z := .int .u8 0) Zl rfl rfl rfl
theorem Check_c (v : VAL) (w : World) : Ret Tryz.prog 149 #[.agg (encV v).toArray] w fun r w' => r = .int .i64 (if isV v then 0 else 10) ∧ Keep w w' := by
 refine X.enter Zf149 rfl Tryz.ntmps149 rfl<|Zs<|Zr<|Zc (X.boxE rfl rfl) rfl ?_
 rintro _ w1 ⟨rfl, hB1, hk1, hz1⟩
 refine Zoa rfl rfl<|Ze<|Zs<|Zb<|Zs<|Zr<|Zo (X.fldB (j := 0) Zu88 rfl rfl Zs86 rfl) rfl<|Zo (X.load1B Zi86 hB1 rfl rfl) rfl<|X.opP X.wN rfl rfl (X.eqI rfl rfl) (fun h6 => ?_) (fun h6 => ?_)
 ·refine Zom rfl rfl<|Zg (X.fldB (j := 2) Zu88 rfl rfl Zs9 rfl) rfl rfl rfl rfl<|Zg (X.load1B Zi9 hB1 rfl rfl) rfl rfl rfl rfl<|X.opP (X.wG rfl rfl rfl) rfl rfl (X.eqD rfl rfl) (fun h10 => ?_) (fun h10 => ?_)
  ·refine Zo (X.pickT rfl rfl) rfl<|Zoa rfl rfl<|Ze<|Zt rfl<|Zs<|Zr<|Zoa rfl rfl<|Ze<|X.ret1 (v := .int .i64 _) Zf149 Zr149 rfl ?_
   exact ⟨by congr 1; simp_all [isV] <;> omega, hk1⟩
  ·refine Zo (X.pickT rfl rfl) rfl<|Zoa rfl rfl<|Ze<|Zf rfl<|Zs<|Zr<|Zo (X.fldB (j := 0) Zu88 rfl rfl Zs86 rfl) rfl<|Zo (X.load1B Zi86 hB1 rfl rfl) rfl<|X.opP X.wN rfl rfl (X.eqI rfl rfl) (fun h15 => ?_) (fun h15 => ?_)
   ·refine Zom rfl rfl<|Zg (X.fldB (j := 1) Zu88 rfl rfl Zs2 rfl) rfl rfl rfl rfl<|Zg (X.load1B Zi2 hB1 rfl rfl) rfl rfl rfl rfl<|X.opP (X.wG rfl rfl rfl) rfl rfl (X.eqI rfl rfl) (fun h19 => ?_) (fun h19 => ?_)
    ·refine Zo (X.pickT rfl rfl) rfl<|Zom rfl rfl<|Zg (X.fldB (j := 2) Zu88 rfl rfl Zs9 rfl) rfl rfl rfl rfl<|Zg (X.load1B Zi9 hB1 rfl rfl) rfl rfl rfl rfl<|Zg (X.lenS Zu9 rfl) rfl rfl rfl rfl<|X.opP (X.wG rfl rfl rfl) rfl rfl (X.leq rfl rfl) (fun h25 => ?_) (fun h25 => ?_)
     ·refine Zo (X.pickT rfl rfl) rfl<|Zoa rfl rfl<|Ze<|Zt rfl<|Zs<|Zr<|Zoa rfl rfl<|Ze<|X.ret1 (v := .int .i64 _) Zf149 Zr149 rfl ?_
      exact ⟨by congr 1; simp_all [isV] <;> omega, hk1⟩
     ·refine Zo (X.pickT rfl rfl) rfl<|Zoa rfl rfl<|Ze<|Zf rfl<|Zk<|Zi<|Zs<|Zr<|Zoa rfl rfl<|Ze<|X.ret1 (v := .int .i64 _) Zf149 Zr149 rfl ?_
      exact ⟨by congr 1; simp_all [isV] <;> omega, hk1⟩
    ·refine Zo (X.pickT rfl rfl) rfl<|Zom rfl rfl<|Zp rfl rfl rfl<|Zp rfl rfl rfl<|Zp rfl rfl rfl<|Zp rfl rfl rfl<|Zo (X.pickF rfl rfl) rfl<|Zoa rfl rfl<|Ze<|Zf rfl<|Zk<|Zi<|Zs<|Zr<|Zoa rfl rfl<|Ze<|X.ret1 (v := .int .i64 _) Zf149 Zr149 rfl ?_
     exact ⟨by congr 1; simp_all [isV] <;> omega, hk1⟩
   ·refine Zom rfl rfl<|Zp rfl rfl rfl<|Zp rfl rfl rfl<|Zp rfl rfl rfl<|Zo (X.pickF rfl rfl) rfl<|Zom rfl rfl<|Zp rfl rfl rfl<|Zp rfl rfl rfl<|Zp rfl rfl rfl<|Zp rfl rfl rfl<|Zo (X.pickF rfl rfl) rfl<|Zoa rfl rfl<|Ze<|Zf rfl<|Zk<|Zi<|Zs<|Zr<|Zoa rfl rfl<|Ze<|X.ret1 (v := .int .i64 _) Zf149 Zr149 rfl ?_
    exact ⟨by congr 1; simp_all [isV] <;> omega, hk1⟩
 ·refine Zom rfl rfl<|Zp rfl rfl rfl<|Zp rfl rfl rfl<|Zp rfl rfl rfl<|Zo (X.pickF rfl rfl) rfl<|Zoa rfl rfl<|Ze<|Zf rfl<|Zs<|Zr<|Zo (X.fldB (j := 0) Zu88 rfl rfl Zs86 rfl) rfl<|Zo (X.load1B Zi86 hB1 rfl rfl) rfl<|X.opP X.wN rfl rfl (X.eqI rfl rfl) (fun h15 => ?_) (fun h15 => ?_)
  ·refine Zom rfl rfl<|Zg (X.fldB (j := 1) Zu88 rfl rfl Zs2 rfl) rfl rfl rfl rfl<|Zg (X.load1B Zi2 hB1 rfl rfl) rfl rfl rfl rfl<|X.opP (X.wG rfl rfl rfl) rfl rfl (X.eqI rfl rfl) (fun h19 => ?_) (fun h19 => ?_)
   ·refine Zo (X.pickT rfl rfl) rfl<|Zom rfl rfl<|Zg (X.fldB (j := 2) Zu88 rfl rfl Zs9 rfl) rfl rfl rfl rfl<|Zg (X.load1B Zi9 hB1 rfl rfl) rfl rfl rfl rfl<|Zg (X.lenS Zu9 rfl) rfl rfl rfl rfl<|X.opP (X.wG rfl rfl rfl) rfl rfl (X.leq rfl rfl) (fun h25 => ?_) (fun h25 => ?_)
    ·refine Zo (X.pickT rfl rfl) rfl<|Zoa rfl rfl<|Ze<|Zt rfl<|Zs<|Zr<|Zoa rfl rfl<|Ze<|X.ret1 (v := .int .i64 _) Zf149 Zr149 rfl ?_
     exact ⟨by congr 1; simp_all [isV] <;> omega, hk1⟩
    ·refine Zo (X.pickT rfl rfl) rfl<|Zoa rfl rfl<|Ze<|Zf rfl<|Zk<|Zi<|Zs<|Zr<|Zoa rfl rfl<|Ze<|X.ret1 (v := .int .i64 _) Zf149 Zr149 rfl ?_
     exact ⟨by congr 1; simp_all [isV] <;> omega, hk1⟩
   ·refine Zo (X.pickT rfl rfl) rfl<|Zom rfl rfl<|Zp rfl rfl rfl<|Zp rfl rfl rfl<|Zp rfl rfl rfl<|Zp rfl rfl rfl<|Zo (X.pickF rfl rfl) rfl<|Zoa rfl rfl<|Ze<|Zf rfl<|Zk<|Zi<|Zs<|Zr<|Zoa rfl rfl<|Ze<|X.ret1 (v := .int .i64 _) Zf149 Zr149 rfl ?_
    exact ⟨by congr 1; simp_all [isV] <;> omega, hk1⟩
  ·refine Zom rfl rfl<|Zp rfl rfl rfl<|Zp rfl rfl rfl<|Zp rfl rfl rfl<|Zo (X.pickF rfl rfl) rfl<|Zom rfl rfl<|Zp rfl rfl rfl<|Zp rfl rfl rfl<|Zp rfl rfl rfl<|Zp rfl rfl rfl<|Zo (X.pickF rfl rfl) rfl<|Zoa rfl rfl<|Ze<|Zf rfl<|Zk<|Zi<|Zs<|Zr<|Zoa rfl rfl<|Ze<|X.ret1 (v := .int .i64 _) Zf149 Zr149 rfl ?_
   exact ⟨by congr 1; simp_all [isV] <;> omega, hk1⟩
theorem may1_c (v : VAL) (w : World) : Ret Tryz.prog 152 #[.agg (encV v).toArray] w fun r w' => r = .bool (!isV v) ∧ Keep w w' := by
 refine X.enter Tryz.func152 rfl Tryz.ntmps152 rfl<|Zs<|Zr<|Zc (X.boxE rfl rfl) rfl ?_
 rintro _ w1 ⟨rfl, hB1, hk1, hz1⟩
 refine Zoa rfl rfl<|Ze<|Zs<|Zr<|Zo (X.loadNB Zi88 Zs88 hB1 rfl rfl rfl) rfl<|Zc (X.callE (Check_c v _) Tryz.call149 rfl rfl) rfl ?_
 rintro _ w2 ⟨rfl, hk2⟩
 refine Zo (X.neI rfl rfl) rfl<|Zoa rfl rfl<|Ze<|X.ret1 (v := .bool _) Tryz.func152 Tryz.results152 rfl ?_
 exact ⟨by congr 1; cases isV v <;> rfl, hk1.trans hk2⟩
theorem getN {α : Type} {l : List α} {n : Nat} (i : Nat) (hl : l.length = n) (h : (i : Int) < (n : Int)) : ∃ x, l[i]? = some x := ⟨l[i]'Zz, List.getElem?_eq_getElem Zz⟩
theorem any_step {α : Type} {l : List α} {i : Nat} {x : α} (p : α → Bool) (hx : l[i]? = some x) : (l.take (i + 1)).any p = ((l.take i).any p || p x) := by
  rw [List.take_add_one, hx]; simp
theorem any_at {α : Type} {l : List α} {i : Nat} {x : α} (p : α → Bool) (hx : l[i]? = some x) (h : p x = true) : l.any p = true := by
  rw [List.any_eq_true]; exact ⟨x, List.mem_of_getElem? hx, h⟩
def isT (l : List VAL) : Bool := l.all isV && decide (l.length ≤ 8)
theorem IndexFunc_c {lo hi : Nat} {A : Option Addr} {n c : Nat} {l : List VAL} (w : World) (hs : Sl KV lo hi w A n l) (p : VAL → Bool) (F : FuncId) (hF : ∀ v w, okV v → Ret Tryz.prog F #[.agg (encV v).toArray] w fun r w' => r = .bool (p v) ∧ Keep w w') (hG : ∀ args w, (callFunc F args).run Tryz.prog w = .ok (.enter F args) w) :
    Ret Tryz.prog 181 #[.slice A n c, .func (.func F) #[] #[]] w fun r w' => (∃ q : Int, r = .int .i64 q ∧ decide (0 ≤ q) = l.any p) ∧ Keep w w' := by
 refine X.enter Tryz.func181 rfl Tryz.ntmps181 rfl<|Zs<|Zr<|Zoa rfl rfl<|Ze<|Zs<|Zs<|Zr<|Zom rfl rfl<|Zo (X.lenSl Zu90 rfl) rfl<|Zom rfl rfl<|Ze<|Zb<|X.loopL (σ := Nat) (fun s => [(0, .slice A n c), (1, .func (.func F) #[] #[]), (7, .int .i64 (n : Int)), (8, .int .i64 (s : Int))]) (fun s w' => s ≤ n ∧ (l.take s).any p = false ∧ Keep w w') (fun s => n - s) 0 ⟨rfl, rfl, rfl, rfl, trivial⟩ ⟨Nat.zero_le _, by simp, Keep.refl w⟩ ?_
 rintro i b w1 ⟨hi0, ha, hk⟩ hback
 have hn := hs.bound
 have hl := hs.len
 have hs' := hs.keep hk
 refine Zs<|Zr<|Zo (X.lss rfl rfl) rfl<|Ze<|Zs<|X.condP rfl (fun hc => ?_) (fun hc => ?_)
 ·obtain ⟨x, hx⟩ := getN i hs.len hc
  refine Zk<|Zs<|Zb<|Zs<|Zr<|Zom rfl rfl<|Zoa rfl rfl<|Ze<|Zs<|Zr<|Zom rfl rfl<|Zom rfl rfl<|Zom rfl rfl<|Zo (X.idxS hs' Zu90 Zs88 rfl rfl ⟨by omega, by omega⟩) rfl<|Zo (X.loadSN Zi88 Zs88 hs' hx rfl (fun _ h => h.1) rfl) rfl<|Zc (X.callVE (vs := [_]) rfl (hF x _ (KV_ok hs i x hx)) hG rfl) rfl ?_
  rintro _ w2 ⟨rfl, hk2⟩
  refine Ze<|X.condB rfl (fun hc => ?_) (fun hc => ?_)
  ·refine Zs<|Zr<|Zom rfl rfl<|Zoa rfl rfl<|Ze<|X.ret1 (v := (.int .i64 _)) Tryz.func181 Tryz.results181 rfl ?_
   exact ⟨⟨_, rfl, by rw [any_at p hx hc]; simp⟩, hk.trans hk2⟩
  ·refine Zk<|Zi<|Zr<|Zo (X.add rfl rfl (X.w_i64 Zz)) rfl<|Zom rfl rfl<|Ze ?_
   refine hback (i + 1) _ _ ⟨rfl, rfl, rfl, rfl, trivial⟩ ⟨by omega, by rw [any_step p hx, ha, hc]; rfl, hk.trans hk2⟩ Zz
 ·refine Zx rfl<|Zs<|Zr<|Zoa rfl rfl<|Ze<|X.ret1 (v := (.int .i64 _)) Tryz.func181 Tryz.results181 rfl ?_
  refine ⟨⟨_, rfl, ?_⟩, hk⟩
  rw [show i = l.length by omega, List.take_length] at ha
  rw [ha]; rfl
theorem ContainsFunc_c {lo hi : Nat} {A : Option Addr} {n c : Nat} {l : List VAL} (w : World) (hs : Sl KV lo hi w A n l) (p : VAL → Bool) (F : FuncId) (hF : ∀ v w, okV v → Ret Tryz.prog F #[.agg (encV v).toArray] w fun r w' => r = .bool (p v) ∧ Keep w w') (hG : ∀ args w, (callFunc F args).run Tryz.prog w = .ok (.enter F args) w) :
    Ret Tryz.prog 151 #[.slice A n c, .func (.func F) #[] #[]] w fun r w' => r = .bool (l.any p) ∧ Keep w w' := by
 refine X.enter Tryz.func151 rfl Tryz.ntmps151 rfl<|Zs<|Zr<|Zoa rfl rfl<|Ze<|Zs<|Zr<|Zom rfl rfl<|Zom rfl rfl<|Zc (X.callE (IndexFunc_c w hs p F hF hG) Tryz.call181 rfl rfl) rfl ?_
 rintro _ w1 ⟨⟨q, rfl, hq⟩, hk⟩
 refine Zo (X.geq rfl rfl) rfl<|Zoa rfl rfl<|Ze<|X.ret1 (v := (.bool _)) Tryz.func151 Tryz.results151 rfl ?_
 exact ⟨by rw [hq], hk⟩
theorem may_c {lo hi : Nat} {A : Option Addr} {n c : Nat} {l : List VAL} (w : World) (hs : Sl KV lo hi w A n l) :
    Ret Tryz.prog 116 #[.slice A n c] w fun r w' => r = .bool (isT l) ∧ Keep w w' := by
 refine X.enter Tryz.func116 rfl Tryz.ntmps116 rfl<|Zs<|Zr<|Zoa rfl rfl<|Ze<|Zs<|Zr<|Zom rfl rfl<|Zo (X.lenSl Zu90 rfl) rfl<|X.opP X.wN rfl rfl (X.leq rfl rfl) (fun h5 => ?_) (fun h5 => ?_)
 ·refine Zom rfl rfl<|Zg (X.move rfl) rfl rfl rfl rfl<|X.opE (X.wG rfl rfl rfl) rfl (X.callE (ContainsFunc_c w hs (fun v => !isV v) 152 (fun v w _ => may1_c v w) Tryz.call152) Tryz.call151 rfl rfl) ?_
  rintro _ w1 ⟨rfl, hk⟩
  refine Zg (X.not_ rfl) rfl rfl rfl rfl<|Zo (X.pickT rfl rfl) rfl<|Zoa rfl rfl<|Ze<|X.ret1 (v := (.bool _)) Tryz.func116 Tryz.results116 rfl ?_
  exact ⟨by rw [isT, ← hs.len] at *; simp_all [List.any_eq_not_all_not]; intros; omega, hk⟩
 ·refine Zom rfl rfl<|Zp rfl rfl rfl<|Zp rfl rfl rfl<|Zp rfl rfl rfl<|Zo (X.pickF rfl rfl) rfl<|Zoa rfl rfl<|Ze<|X.ret1 (v := (.bool _)) Tryz.func116 Tryz.results116 rfl ?_
  exact ⟨by have := hs.len; simp [isT]; intros; omega, Keep.refl w⟩
def FreshB (w w' : World) (v : Value) (l : List UInt8) : Prop := Mine KB 5 (fun k => w.heap.size ≤ k) 0 0 w' v l ∧ Keep w w'
theorem app_hs {w w' : World} (h : Keep w w') : ∀ k, w'.heap.size ≤ k → w.heap.size ≤ k := fun k hk => Nat.le_trans h.size hk
def numB (x : Nat) : List UInt8 := if x < 128 then [UInt8.ofNat x] else UInt8.ofNat (x % 128 + 128) :: numB (x / 128)
termination_by x
theorem numB_len (n : Nat) : ∀ x, x < 128 ^ (n + 1) → (numB x).length ≤ n + 1 := by
  induction n with
  | zero => intro x h; rw [numB, if_pos Zz]; simp
  | succ n ih =>
    intro x h
    rw [numB]
    split
    · simp
    · have := ih (x / 128) (by rw [Nat.pow_succ] at h; omega)
      simp; omega
theorem p128 : (128 : Nat) ^ (9 + 1) = 1180591620717411303424 := by simp
theorem numB_10 (x : Int) (h : x ≤ 18446744073709551615) : (numB x.toNat).length ≤ 10 := by
  have e := numB_len 9 x.toNat
  rw [p128] at e
  have h2 : x.toNat < 1180591620717411303424 := by omega
  have := e h2
  omega
set_option maxRecDepth 20000 in
theorem or_tab : ∀ m : Fin 256, (BitVec.ofNat 8 m.1 ||| 128#8).toNat = m.1 % 128 + 128 := by decide
theorem u8_or (x : Int) (h : 0 ≤ x) : IntKind.u8.wrap ((BitVec.ofInt IntKind.u8.bits (x % 256) ||| BitVec.ofInt IntKind.u8.bits 128).toNat : Int) = ((UInt8.ofNat (x.toNat % 128 + 128)).toNat : Int) := by
  obtain ⟨n, rfl⟩ := Int.eq_ofNat_of_zero_le h
  have h1 : ((n : Int) % 256) = ((n % 256 : Nat) : Int) := by omega
  have h2 := or_tab ⟨n % 256, by omega⟩
  rw [h1]
  show IntKind.u8.wrap (((BitVec.ofInt 8 ((n % 256 : Nat) : Int) ||| 128#8).toNat : Nat) : Int) = _
  rw [BitVec.ofInt_natCast, h2, u8_wrap, UInt8.toNat_ofNat', Int.toNat_natCast]
  simp only []
  omega
theorem u8_of (x : Int) (h : 0 ≤ x) : IntKind.u8.wrap x = ((UInt8.ofNat x.toNat).toNat : Int) := by
  rw [u8_wrap, UInt8.toNat_ofNat']; omega
theorem shr7 (x : Int) : x.fdiv (2 ^ (min (7 : Int).toNat IntKind.u64.bits)) = x / 128 := Int.fdiv_eq_ediv_of_nonneg x (by decide)
theorem Num_c (x : Int) (h0 : 0 ≤ x) (h1 : x ≤ 18446744073709551615) (w : World) : Ret Tryz.prog 65 #[.int .u64 x] w fun v w' => FreshB w w' v (numB x.toNat) := by
 refine X.enter Tryz.func65 rfl Tryz.ntmps65 rfl<|Zs<|Zr<|Zoa rfl rfl<|Ze<|Zs<|Zr<|Zoa rfl rfl<|Ze<|Zs<|Zb<|X.loopL (σ := Int × Value × List UInt8) (fun s => [(0, .int .u64 s.1), (3, s.2.1)]) (fun s w' => 0 ≤ s.1 ∧ s.1 ≤ x ∧ Mine KB 5 (fun k => w.heap.size ≤ k) 0 0 w' s.2.1 s.2.2 ∧ s.2.2 ++ numB s.1.toNat = numB x.toNat ∧ Keep w w') (fun s => s.1.toNat) (x, .slice none 0 0, []) ⟨rfl, rfl, trivial⟩ ⟨h0, by simp, Mine.nil _ _ _ _ _ _, rfl, Keep.refl w⟩ ?_
 rintro ⟨y, v, l⟩ b w1 ⟨hy0, hy1, hM, hl, hk⟩ hback
 simp only at hy0 hy1 hM hl
 have hlen : l.length ≤ 10 := by
   have e := congrArg List.length hl
   have := numB_10 x h1
   simp at e; omega
 refine Zs<|Zs<|Zr<|Zom rfl rfl<|X.opP X.wN rfl rfl (X.geq rfl rfl) (fun h5 => ?_) (fun h5 => ?_)
 ·refine Ze<|Zt rfl<|Zk<|Zs<|Zb<|Zr<|Zom rfl rfl<|Zom rfl rfl<|Zo (X.cvI Zu154 Zu5 rfl (X.u8_wrap _)) rfl<|Zo (X.or_ rfl rfl (u8_or y hy0)) rfl<|Zc (X.lit1E (K := KB) (lo := 0) (hi := 0) Zu81 Zs5 Zv5 rfl rfl (KB_R 0 0 _ _)) rfl ?_
  rintro _ w2 ⟨rfl, hs1, hB1, hk1, hz1⟩
  refine Zc (X.appE (K := KB) KB_flat Zu81 E5 rfl rfl (hM.keep hk1) (hs1) (by simp; omega) (app_hs (hk.trans hk1))) rfl ?_
  rintro v2 w3 ⟨hM2, hx2⟩
  refine Zoa rfl rfl<|Ze<|Zi<|Zr<|Zom rfl rfl<|Zo (X.shr rfl rfl (by decide) (shr7 y)) rfl<|Zoa rfl rfl<|Ze ?_
  refine hback (y / 128, v2, l ++ [UInt8.ofNat (y.toNat % 128 + 128)]) _ w3 ⟨rfl, rfl, trivial⟩ ⟨by simp only []; omega, by simp only []; omega, hM2, ?_, (hk.trans hk1).step hx2 (fun _ h => h)⟩ (by simp only []; omega)
  rw [← hl, numB.eq_def y.toNat, if_neg Zz, List.append_assoc, List.singleton_append]
  simp only []
  rw [show (y / 128).toNat = y.toNat / 128 by omega]
 ·refine Ze<|Zf rfl<|Zx rfl<|Zs<|Zr<|Zom rfl rfl<|Zom rfl rfl<|Zo (X.cvI Zu154 Zu5 rfl (u8_of y hy0)) rfl<|Zc (X.lit1E (K := KB) (lo := 0) (hi := 0) Zu81 Zs5 Zv5 rfl rfl (KB_R 0 0 _ _)) rfl ?_
  rintro _ w3 ⟨rfl, hs3, hB3, hk3, hz3⟩
  refine Zc (X.appE (K := KB) KB_flat Zu81 E5 rfl rfl (hM.keep hk3) (hs3) (by simp; omega) (app_hs (hk.trans hk3))) rfl ?_
  rintro v4 w4 ⟨hM4, hx4⟩
  refine Zoa rfl rfl<|Ze<|X.ret1 Tryz.func65 Tryz.results65 rfl ?_
  refine ⟨?_, (hk.trans hk3).step hx4 (fun _ h => h)⟩
  rw [← hl, numB.eq_def y.toNat, if_pos Zz]
  exact hM4
def zig (x : Int) : Int := if x < 0 then -(x + 1) * 2 + 1 else x * 2
theorem zig_ok (x : Int) (h : okI x) : 0 ≤ zig x ∧ zig x ≤ 18446744073709551615 := by
  unfold okI at h; unfold zig; split <;> omega
theorem zig_xor (x : Int) (h : okI x) : IntKind.u64.wrap ((BitVec.ofInt IntKind.u64.bits (IntKind.u64.wrap (IntKind.i64.wrap (x * 2 ^ (min (1 : Int).toNat IntKind.i64.bits)))) ^^^ BitVec.ofInt IntKind.u64.bits (IntKind.u64.wrap (x.fdiv (2 ^ (min (63 : Int).toNat IntKind.i64.bits))))).toNat : Int) = zig x := by
  have hi : ∀ y : Int, IntKind.u64.wrap (IntKind.i64.wrap y) = y % 18446744073709551616 := by
    intro y
    rw [u64_wrap]
    simp only [IntKind.wrap, IntKind.bits, IntKind.signed, Bool.true_and]
    split <;> omega
  have hf : x.fdiv (2 ^ (min (63 : Int).toNat IntKind.i64.bits)) = x / 9223372036854775808 := Int.fdiv_eq_ediv_of_nonneg x (by decide)
  rw [hi, hf, u64_wrap, u64_wrap]
  unfold okI at h
  show ((BitVec.ofInt 64 (x * 2 % 18446744073709551616) ^^^ BitVec.ofInt 64 (x / 9223372036854775808 % 18446744073709551616)).toNat : Int) % 18446744073709551616 = _
  by_cases hx : x < 0
  · rw [show x / 9223372036854775808 % 18446744073709551616 = 18446744073709551615 by omega]
    rw [show BitVec.ofInt 64 18446744073709551615 = BitVec.allOnes 64 by decide, BitVec.xor_allOnes, BitVec.toNat_not, BitVec.toNat_ofInt]
    unfold zig
    rw [if_pos hx]
    omega
  · rw [show x / 9223372036854775808 % 18446744073709551616 = 0 by omega]
    rw [show BitVec.ofInt 64 0 = 0#64 by decide, BitVec.xor_zero, BitVec.toNat_ofInt]
    unfold zig
    rw [if_neg hx]
    omega
theorem Int_c (x : Int) (h : okI x) (w : World) : Ret Tryz.prog 180 #[.int .i64 x] w fun v w' => FreshB w w' v (numB (zig x).toNat) := by
 have hz := zig_ok x h
 refine X.enter Tryz.func180 rfl Tryz.ntmps180 rfl<|Zs<|Zr<|Zoa rfl rfl<|Ze<|Zs<|Zr<|Zom rfl rfl<|Zo (X.shl rfl rfl (by decide) rfl) rfl<|Zo (X.cvI Zu2 Zu154 rfl rfl) rfl<|Zom rfl rfl<|Zo (X.shr rfl rfl (by decide) rfl) rfl<|Zo (X.cvI Zu2 Zu154 rfl rfl) rfl<|Zo (X.xor_ rfl rfl (zig_xor x h)) rfl<|Zc (X.callE (Num_c _ hz.1 hz.2 w) Tryz.call65 rfl rfl) rfl ?_
 rintro v w1 hv
 refine Zoa rfl rfl<|Ze<|X.ret1 Tryz.func180 Tryz.results180 rfl ?_
 exact hv
def textB (l : List UInt8) : List UInt8 := numB l.length ++ l
theorem Text_c {lo hi : Nat} {A : Option Addr} {n c : Nat} {l : List UInt8} (w : World) (hs : Sl KB lo hi w A n l) (hb : n ≤ 1000000) : Ret Tryz.prog 66 #[.slice A n c] w fun v w' => FreshB w w' v (textB l) := by
 have hn := numB_10 (n : Int) Zz
 have hl := hs.len
 refine X.enter Tryz.func66 rfl Tryz.ntmps66 rfl<|Zs<|Zr<|Zoa rfl rfl<|Ze<|Zs<|Zr<|Zom rfl rfl<|Zo (X.lenSl Zu81 rfl) rfl<|Zo (X.cvI Zu3 Zu154 rfl (X.w_u64 Zz)) rfl<|Zc (X.callE (Num_c _ Zz Zz w) Tryz.call65 rfl rfl) rfl ?_
 rintro v w1 ⟨hM1, hk1⟩
 refine Zom rfl rfl<|Zc (X.appE (K := KB) KB_flat Zu81 E5 rfl rfl (hM1) (hs.keep hk1) (by simp only [Int.toNat_natCast] at *; omega) (app_hs hk1)) rfl ?_
 rintro v2 w2 ⟨hM2, hx2⟩
 refine Zoa rfl rfl<|Ze<|X.ret1 Tryz.func66 Tryz.results66 rfl ?_
 exact ⟨by rw [textB, hl]; exact hM2, hk1.step hx2 (fun _ h => h)⟩
theorem EV : ElemInfo Tryz.prog 88 3 32 := ElemInfo.of (z := .agg #[.int .i64 0, .int .i64 0, .string ⟨#[]⟩]) Zl rfl rfl rfl
def valB (v : VAL) : List UInt8 := if v.1 = 1 then 1 :: numB (zig v.2.1).toNat else 2 :: textB v.2.2.data.toList
def tupB (l : List VAL) : List UInt8 := UInt8.ofNat l.length :: l.flatMap valB
theorem sym_len (s : ByteArray) : s.data.toList.length = s.size := by rw [Array.length_toList]; rfl
theorem textB_len {l : List UInt8} (h : l.length ≤ 1000000) : (textB l).length ≤ 1000010 := by
  have := numB_10 (l.length : Int) Zz
  simp only [Int.toNat_natCast] at this
  rw [textB, List.length_append]; omega
theorem valB_len {v : VAL} (h : okV v) (hs : v.2.2.size ≤ 1000000) : (valB v).length ≤ 1000100 := by
  unfold valB
  split
  · have := numB_10 _ (zig_ok v.2.1 h.2.1).2
    simp; omega
  · have := textB_len (l := v.2.2.data.toList) (by rw [sym_len]; exact hs)
    simp; omega
theorem isV_size {v : VAL} (h : isV v = true) : v.2.2.size ≤ 256 := by
  simp only [isV, decide_eq_true_eq] at h
  rcases h with ⟨_, h⟩ | ⟨_, _, h⟩
  · rw [h]; decide
  · exact h
theorem flat_step {α β : Type} {l : List α} {i : Nat} {x : α} (f : α → List β) (hx : l[i]? = some x) : (l.take (i + 1)).flatMap f = (l.take i).flatMap f ++ f x := by
  rw [List.take_add_one, hx]; simp
theorem isT_at {l : List VAL} (h : isT l = true) {i : Nat} {x : VAL} (hx : l[i]? = some x) : isV x = true := by
  simp only [isT, Bool.and_eq_true, List.all_eq_true] at h
  exact h.1 x (List.mem_of_getElem? hx)
theorem isT_len {l : List VAL} (h : isT l = true) : l.length ≤ 8 := by
  simp only [isT, Bool.and_eq_true, decide_eq_true_eq] at h
  exact h.2
theorem flat_len {l : List VAL} (hT : isT l = true) (hok : ∀ (i : Nat) (x : VAL), l[i]? = some x → okV x) : ∀ i, i ≤ l.length → ((l.take i).flatMap valB).length ≤ i * 1000100 := by
  intro i
  induction i with
  | zero => intro _; simp
  | succ i ih =>
    intro h
    have hx : l[i]? = some l[i] := List.getElem?_eq_getElem Zz
    have h1 := ih Zz
    have h2 := valB_len (hok i _ hx) (Nat.le_trans (isV_size (isT_at hT hx)) Zz)
    rw [flat_step valB hx, List.length_append]
    omega
theorem Tuple_c {lo hi : Nat} {A : Option Addr} {n c : Nat} {l : List VAL} (w : World) (hs : Sl KV lo hi w A n l) (hhi : hi ≤ w.heap.size) : Ret Tryz.prog 179 #[.slice A n c] w fun r w' => ∃ v, r = .tuple #[v, .int .i64 (if isT l then 0 else 20)] ∧ FreshB w w' v (if isT l then tupB l else []) := by
 have hn := hs.bound
 have hl := hs.len
 refine X.enter Tryz.func179 rfl Tryz.ntmps179 rfl<|Zs<|Zr<|Zoa rfl rfl<|Zoa rfl rfl<|Ze<|Zs<|Zs<|Zr<|Zoms rfl rfl<|Zc (X.callE (may_c _ hs) Tryz.call116 rfl rfl) rfl ?_
 rintro _ w1 ⟨rfl, hk1⟩
 have hk1' := hk1.size
 refine Zo (X.not_ rfl) rfl<|Ze<|X.condB rfl (fun hc => ?_) (fun hc => ?_)
 ·refine Zs<|Zr<|Zoa rfl rfl<|Zoa rfl rfl<|Ze<|X.ret2 (v2 := (.int .i64 _)) Tryz.func179 Tryz.results179 rfl rfl ?_
  rw [if_neg (by simpa using hc), if_neg (by simpa using hc)]
  exact ⟨_, rfl, (Mine.nil _ _ _ _ _ _), hk1⟩
 ·have hT : isT l = true := by simpa using hc
  refine Zk<|Zs<|Zr<|Zoms rfl rfl<|Zo (X.lenSl Zu90 rfl) rfl<|Zo (X.cvI Zu3 Zu5 rfl (u8_of _ Zz)) rfl<|Zc (X.lit1B Zu81 Zs5 Zv5 rfl) rfl ?_
  rintro _ w2 ⟨rfl, hs2, hB2, hk2, hz2⟩
  refine Zoa rfl rfl<|Ze<|Zs<|Zs<|Zr<|Zoms rfl rfl<|Zo (X.lenSl Zu90 rfl) rfl<|Zom rfl rfl<|Ze<|Zb<|X.loopL (σ := Nat × Value) (fun s => [(4, s.2), (14, .slice A n c), (15, .int .i64 (n : Int)), (16, .int .i64 (s.1 : Int))]) (fun s w' => s.1 ≤ n ∧ Mine KB 5 (fun k => w.heap.size ≤ k) 0 0 w' s.2 (UInt8.ofNat n :: (l.take s.1).flatMap valB) ∧ Keep w w') (fun s => n - s.1) (0, _) ⟨rfl, rfl, rfl, rfl, trivial⟩ ⟨Nat.zero_le _, (Mine.litB hB2 zq34), (hk1.trans hk2)⟩ ?_
  rintro ⟨i, v⟩ b w1 ⟨hi0, hM, hk⟩ hback
  simp only at hi0 hM
  have hk' := hk.size
  have hlen := flat_len hT (fun i x hx => KV_ok hs i x hx) i Zz
  have hn8 := isT_len hT
  refine Zs<|Zr<|X.opP X.wN rfl rfl (X.lss rfl rfl) (fun h17 => ?_) (fun h17 => ?_)
  ·obtain ⟨x, hx⟩ := getN i hl h17
   have hV := KV_ok hs i x hx
   have hN := hV.2.1
   have hsz := isV_size (isT_at hT hx)
   have hz := numB_10 _ (zig_ok x.2.1 hN).2
   have ht := textB_len (l := x.2.2.data.toList) (by rw [sym_len]; omega)
   have hsl := sym_len x.2.2
   have hvl := valB_len hV Zz
   refine Ze<|Zs<|Zt rfl<|Zk<|Zs<|Zb<|Zs<|Zr<|Zo (X.idxS (hs.keep hk) Zu90 Zs88 rfl rfl ⟨by omega, by omega⟩) rfl<|Zo (X.loadSN Zi88 Zs88 (hs.keep hk) hx rfl (fun _ h => h.1) rfl) rfl<|Zc (X.allocE Zv88 rfl) rfl ?_
   rintro _ w3 ⟨rfl, hB3, hk3, hz3⟩
   refine Zc (X.storeNE Zs88 hB3 rfl rfl rfl rfl (encV_one _)) rfl ?_
   rintro _ w4 ⟨hB4, hx4, hz4⟩
   refine Ze<|Zs<|Zr<|Zo (X.fldB (j := 0) Zu88 rfl rfl Zs86 rfl) rfl<|Zo (X.load1B Zi86 hB4 rfl rfl) rfl<|Ze<|Zb<|Zs<|Zr<|X.opP X.wN rfl rfl (X.eqI rfl rfl) (fun h31 => ?_) (fun h31 => ?_)
   ·have hM6 := Mine.mono (T := fun k => w.heap.size ≤ k ∧ k ≠ w1.heap.size) hM (fun k h1 h2 => ⟨h2, by omega⟩)
    replace hM6 := (hM6.keep (hk3.step hx4 zq34))
    refine Zoat rfl rfl<|Ze<|Zt rfl<|X.regionD (fun k => w.heap.size ≤ k ∧ k ≠ w1.heap.size) 7 Zl Zl (fun w5 hk5 hz5 => ?_)
    refine ZDc 0 rfl Zl (X.move rfl)<|ZDc 3 rfl Zl (X.fldB (j := 1) Zu88 rfl rfl Zs2 rfl)<|ZD 4 rfl Zl (fun w' hk' => X.load1B Zi2 ((hB4.keep hk5).ext hk' zq36) rfl rfl) ?_
    refine X.dE (i := 1) Zl rfl (X.dwN rfl) (X.lit1B (y := 1) Zu81 Zs5 Zv5 rfl) (by rintro _ w6 ⟨rfl, hs6, hB6, hk6, hz6⟩ _; exact hk6.mono (fun _ _ h => h.elim)) ?_
    rintro _ w6 ⟨rfl, hs6, hB6, hk6, hz6⟩
    refine X.dE (i := 2) Zl rfl (X.dwN rfl) (X.appE (K := KB) (S := fun k => w.heap.size ≤ k ∧ k ≠ w1.heap.size) KB_flat Zu81 E5 rfl rfl (hM6.keep (hk5.trans hk6)) hs6 zq15 zq34) (by rintro v7 w7 ⟨hM7, hx7⟩ _; exact hx7) ?_
    rintro v7 w7 ⟨hM7, hx7⟩
    have hx7' := hx7.size
    refine X.dE (i := 5) Zl rfl (X.dwN rfl) (X.callE (Int_c _ hN _) Tryz.call180 rfl rfl) (by rintro v8 w8 ⟨hM8, hk8⟩ _; exact hk8.mono (fun _ _ h => h.elim)) ?_
    rintro v8 w8 ⟨hM8, hk8⟩
    have hk8' := hk8.size
    obtain ⟨A9, c9, rfl, hc9, hs9⟩ := hM8.slF KB_flat 0 (fun _ _ => Nat.zero_le _)
    refine X.dE (i := 6) Zl rfl (X.dwN rfl) (X.appE (K := KB) (S := fun k => w.heap.size ≤ k ∧ k ≠ w1.heap.size) KB_flat Zu81 E5 rfl rfl (hM7.keep hk8) hs9 zq15 zq34) (by rintro v10 w10 ⟨hM10, hx10⟩ _; exact hx10) ?_
    rintro v10 w10 ⟨hM10, hx10⟩
    have hx10' := hx10.size
    refine X.dStep (i := 7) Zl rfl (X.dwN rfl) (X.assign rfl) (fun h => absurd h (by decide))<|Zdend Zl<|Zi<|Zi<|Zr<|Zo (X.add rfl rfl (X.w_i64 Zz)) rfl<|Zomi rfl rfl<|Ze ?_
    refine hback (i + 1, _) _ _ ⟨rfl, rfl, rfl, rfl, trivial⟩ ⟨by simp only []; omega, ?_, (((((((hk.trans hk3).step hx4 zq34).trans hk5).trans hk6).step hx7 zq34).trans hk8).step hx10 zq34)⟩ (by simp only []; omega)
    have e := hM10.mono (T := fun k => w.heap.size ≤ k) (fun k _ h => h.1)
    simp only []
    rw [flat_step valB hx, valB, if_pos h31]
    simpa only [List.cons_append, List.append_assoc, List.singleton_append, List.nil_append, List.append_nil] using e
   ·have hM6 := Mine.mono (T := fun k => w.heap.size ≤ k ∧ k ≠ w1.heap.size) hM (fun k h1 h2 => ⟨h2, by omega⟩)
    replace hM6 := (hM6.keep (hk3.step hx4 zq34))
    refine Zoaf rfl rfl<|Ze<|Zf rfl<|X.regionD (fun k => w.heap.size ≤ k ∧ k ≠ w1.heap.size) 8 Zl Zl (fun w11 hk11 hz11 => ?_)
    refine ZDc 0 rfl Zl (X.move rfl)<|ZDc 3 rfl Zl (X.fldB (j := 2) Zu88 rfl rfl Zs9 rfl)<|ZD 4 rfl Zl (fun w' hk' => X.load1B Zi9 ((hB4.keep hk11).ext hk' zq36) rfl rfl) ?_
    refine X.dTwo (i := 1) (j := 5) Zl ?_ ?_
    ·refine X.d1E (i := 1) rfl (X.dwN rfl) (X.lit1B (y := 2) Zu81 Zs5 Zv5 rfl) (by rintro _ w12 ⟨rfl, hs12, hB12, hk12, hz12⟩ _; exact hk12.mono (fun _ _ h => h.elim)) ?_
     rintro _ w12 ⟨rfl, hs12, hB12, hk12, hz12⟩
     refine X.dTwo (i := 2) (j := 5) Zl ?_ ?_
     ·refine X.d1E (i := 2) rfl (X.dwN rfl) (X.appE (K := KB) (S := fun k => w.heap.size ≤ k ∧ k ≠ w1.heap.size) KB_flat Zu81 E5 rfl rfl (hM6.keep (hk11.trans hk12)) hs12 zq15 zq34) (by rintro v13 w13 ⟨hM13, hx13⟩ _; exact hx13) ?_
      rintro v13 w13 ⟨hM13, hx13⟩
      have hx13' := hx13.size
      refine X.dE (i := 5) Zl rfl (X.dwN rfl) (X.bytesE (K := KB) Zu9 Zu81 Zu5 rfl Zz rfl KB_R) (by rintro _ w14 ⟨c14, rfl, hc14, hs14, hk14, hz14⟩ _; exact hk14.mono (fun _ _ h => h.elim)) ?_
      rintro _ w14 ⟨c14, rfl, hc14, hs14, hk14, hz14⟩
      refine X.dE (i := 6) Zl rfl (X.dwN rfl) (X.callE (Text_c _ hs14 Zz) Zc66 rfl rfl) (by rintro v15 w15 ⟨hM15, hk15⟩ _; exact hk15.mono (fun _ _ h => h.elim)) ?_
      rintro v15 w15 ⟨hM15, hk15⟩
      have hk15' := hk15.size
      obtain ⟨A16, c16, rfl, hc16, hs16⟩ := hM15.slF KB_flat 0 (fun _ _ => Nat.zero_le _)
      refine X.dE (i := 7) Zl rfl (X.dwN rfl) (X.appE (K := KB) (S := fun k => w.heap.size ≤ k ∧ k ≠ w1.heap.size) KB_flat Zu81 E5 rfl rfl (hM13.keep (hk14.trans hk15)) hs16 zq15 zq34) (by rintro v17 w17 ⟨hM17, hx17⟩ _; exact hx17) ?_
      rintro v17 w17 ⟨hM17, hx17⟩
      have hx17' := hx17.size
      refine X.dStep (i := 8) Zl rfl (X.dwN rfl) (X.assign rfl) (fun h => absurd h (by decide))<|Zdend Zl<|Zi<|Zi<|Zr<|Zo (X.add rfl rfl (X.w_i64 Zz)) rfl<|Zomi rfl rfl<|Ze ?_
      refine hback (i + 1, _) _ _ ⟨rfl, rfl, rfl, rfl, trivial⟩ ⟨by simp only []; omega, ?_, ((((((((hk.trans hk3).step hx4 zq34).trans hk11).trans hk12).step hx13 zq34).trans hk14).trans hk15).step hx17 zq34)⟩ (by simp only []; omega)
      have e := hM17.mono (T := fun k => w.heap.size ≤ k) (fun k _ h => h.1)
      simp only []
      rw [flat_step valB hx, valB, if_neg h31]
      simpa only [List.cons_append, List.append_assoc, List.singleton_append, List.nil_append, List.append_nil] using e
     ·refine X.d1E (i := 5) rfl (X.dwN rfl) (X.bytesE (K := KB) Zu9 Zu81 Zu5 rfl Zz rfl KB_R) (by rintro _ w18 ⟨c18, rfl, hc18, hs18, hk18, hz18⟩ _; exact hk18.mono (fun _ _ h => h.elim)) ?_
      rintro _ w18 ⟨c18, rfl, hc18, hs18, hk18, hz18⟩
      refine X.dE (i := 2) Zl rfl (X.dwN rfl) (X.appE (K := KB) (S := fun k => w.heap.size ≤ k ∧ k ≠ w1.heap.size ∧ k ≠ w12.heap.size) KB_flat Zu81 E5 rfl rfl ((Mine.mono (T := fun k => w.heap.size ≤ k ∧ k ≠ w1.heap.size ∧ k ≠ w12.heap.size) (hM6.keep (hk11.trans hk12)) (fun k h1 h2 => by (try simp only [] at *); omega)).keep hk18) (hs12.keep hk18) zq15 zq34) (by rintro v19 w19 ⟨hM19, hx19⟩ _; exact hx19.mono (fun k _ h => by (try simp only [] at *); omega)) ?_
      rintro v19 w19 ⟨hM19, hx19⟩
      replace hM19 := Mine.mono (T := fun k => w.heap.size ≤ k ∧ k ≠ w1.heap.size) hM19 (fun k _ h => by (try simp only [] at *); omega)
      have hx19' := hx19.size
      refine X.dE (i := 6) Zl rfl (X.dwN rfl) (X.callE (Text_c _ (hs18.ext hx19 zq36) Zz) Zc66 rfl rfl) (by rintro v20 w20 ⟨hM20, hk20⟩ _; exact hk20.mono (fun _ _ h => h.elim)) ?_
      rintro v20 w20 ⟨hM20, hk20⟩
      have hk20' := hk20.size
      obtain ⟨A21, c21, rfl, hc21, hs21⟩ := hM20.slF KB_flat 0 (fun _ _ => Nat.zero_le _)
      refine X.dE (i := 7) Zl rfl (X.dwN rfl) (X.appE (K := KB) (S := fun k => w.heap.size ≤ k ∧ k ≠ w1.heap.size) KB_flat Zu81 E5 rfl rfl (hM19.keep hk20) hs21 zq15 zq34) (by rintro v22 w22 ⟨hM22, hx22⟩ _; exact hx22) ?_
      rintro v22 w22 ⟨hM22, hx22⟩
      have hx22' := hx22.size
      refine X.dStep (i := 8) Zl rfl (X.dwN rfl) (X.assign rfl) (fun h => absurd h (by decide))<|Zdend Zl<|Zi<|Zi<|Zr<|Zo (X.add rfl rfl (X.w_i64 Zz)) rfl<|Zomi rfl rfl<|Ze ?_
      refine hback (i + 1, _) _ _ ⟨rfl, rfl, rfl, rfl, trivial⟩ ⟨by simp only []; omega, ?_, ((((((((hk.trans hk3).step hx4 zq34).trans hk11).trans hk12).trans hk18).step hx19 zq34).trans hk20).step hx22 zq34)⟩ (by simp only []; omega)
      have e := hM22.mono (T := fun k => w.heap.size ≤ k) (fun k _ h => h.1)
      simp only []
      rw [flat_step valB hx, valB, if_neg h31]
      simpa only [List.cons_append, List.append_assoc, List.singleton_append, List.nil_append, List.append_nil] using e
    ·refine X.d1E (i := 5) rfl (X.dwN rfl) (X.bytesE (K := KB) Zu9 Zu81 Zu5 rfl Zz rfl KB_R) (by rintro _ w23 ⟨c23, rfl, hc23, hs23, hk23, hz23⟩ _; exact hk23.mono (fun _ _ h => h.elim)) ?_
     rintro _ w23 ⟨c23, rfl, hc23, hs23, hk23, hz23⟩
     refine X.dE (i := 1) Zl rfl (X.dwN rfl) (X.lit1B (y := 2) Zu81 Zs5 Zv5 rfl) (by rintro _ w24 ⟨rfl, hs24, hB24, hk24, hz24⟩ _; exact hk24.mono (fun _ _ h => h.elim)) ?_
     rintro _ w24 ⟨rfl, hs24, hB24, hk24, hz24⟩
     refine X.dE (i := 2) Zl rfl (X.dwN rfl) (X.appE (K := KB) (S := fun k => w.heap.size ≤ k ∧ k ≠ w1.heap.size ∧ k ≠ w11.heap.size) KB_flat Zu81 E5 rfl rfl ((Mine.mono (T := fun k => w.heap.size ≤ k ∧ k ≠ w1.heap.size ∧ k ≠ w11.heap.size) (hM6.keep hk11) (fun k h1 h2 => by (try simp only [] at *); omega)).keep (hk23.trans hk24)) hs24 zq15 zq34) (by rintro v25 w25 ⟨hM25, hx25⟩ _; exact hx25.mono (fun k _ h => by (try simp only [] at *); omega)) ?_
     rintro v25 w25 ⟨hM25, hx25⟩
     replace hM25 := Mine.mono (T := fun k => w.heap.size ≤ k ∧ k ≠ w1.heap.size) hM25 (fun k _ h => by (try simp only [] at *); omega)
     have hx25' := hx25.size
     refine X.dE (i := 6) Zl rfl (X.dwN rfl) (X.callE (Text_c _ ((hs23.keep hk24).ext hx25 zq36) Zz) Zc66 rfl rfl) (by rintro v26 w26 ⟨hM26, hk26⟩ _; exact hk26.mono (fun _ _ h => h.elim)) ?_
     rintro v26 w26 ⟨hM26, hk26⟩
     have hk26' := hk26.size
     obtain ⟨A27, c27, rfl, hc27, hs27⟩ := hM26.slF KB_flat 0 (fun _ _ => Nat.zero_le _)
     refine X.dE (i := 7) Zl rfl (X.dwN rfl) (X.appE (K := KB) (S := fun k => w.heap.size ≤ k ∧ k ≠ w1.heap.size) KB_flat Zu81 E5 rfl rfl (hM25.keep hk26) hs27 zq15 zq34) (by rintro v28 w28 ⟨hM28, hx28⟩ _; exact hx28) ?_
     rintro v28 w28 ⟨hM28, hx28⟩
     have hx28' := hx28.size
     refine X.dStep (i := 8) Zl rfl (X.dwN rfl) (X.assign rfl) (fun h => absurd h (by decide))<|Zdend Zl<|Zi<|Zi<|Zr<|Zo (X.add rfl rfl (X.w_i64 Zz)) rfl<|Zomi rfl rfl<|Ze ?_
     refine hback (i + 1, _) _ _ ⟨rfl, rfl, rfl, rfl, trivial⟩ ⟨by simp only []; omega, ?_, ((((((((hk.trans hk3).step hx4 zq34).trans hk11).trans hk23).trans hk24).step hx25 zq34).trans hk26).step hx28 zq34)⟩ (by simp only []; omega)
     have e := hM28.mono (T := fun k => w.heap.size ≤ k) (fun k _ h => h.1)
     simp only []
     rw [flat_step valB hx, valB, if_neg h31]
     simpa only [List.cons_append, List.append_assoc, List.singleton_append, List.nil_append, List.append_nil] using e
  ·refine Ze<|Zs<|Zf rfl<|Zx rfl<|Zs<|Zr<|Zom rfl rfl<|Zoa rfl rfl<|Zoa rfl rfl<|Ze<|X.ret2 (v2 := (.int .i64 _)) Tryz.func179 Tryz.results179 rfl rfl ?_
   have e := hM
   rw [show i = l.length by omega, List.take_length] at e
   refine ⟨_, by rw [if_pos hT], ?_, hk⟩
   rw [if_pos hT, tupB, hl]
   exact e
def keyAt (K k : Nat) : UInt8 := UInt8.ofNat (K / 256 ^ (7 - k))
def keyN (x : Int) : Nat := (x + 9223372036854775808).toNat
def escB (c : UInt8) : List UInt8 := if c = 0 then [0, 255] else [c]
def valK (v : VAL) : List UInt8 := if v.1 = 1 then 1 :: (List.range 8).map (keyAt (keyN v.2.1)) else 2 :: (v.2.2.data.toList.flatMap escB ++ [0, 1])
def keyB (l : List VAL) : List UInt8 := l.flatMap valK
theorem keyN_ok {x : Int} (h : okI x) : (keyN x : Int) = x + 9223372036854775808 ∧ keyN x < 18446744073709551616 := by
  unfold okI at h; unfold keyN; omega
theorem esc_len : ∀ l : List UInt8, (l.flatMap escB).length ≤ 2 * l.length := by
  intro l
  induction l with
  | nil => simp
  | cons c l ih =>
    have : (escB c).length ≤ 2 := by unfold escB; split <;> simp
    rw [List.flatMap_cons, List.length_append, List.length_cons]; omega
theorem valK_len {v : VAL} (hs : v.2.2.size ≤ 256) : (valK v).length ≤ 1000 := by
  unfold valK
  split
  · simp
  · have := esc_len v.2.2.data.toList
    rw [sym_len] at this
    simp only [List.length_cons, List.length_append, List.length_nil]; omega
theorem keyL_len {l : List VAL} (hT : isT l = true) : ∀ i, i ≤ l.length → ((l.take i).flatMap valK).length ≤ i * 1000 := by
  intro i
  induction i with
  | zero => intro _; simp
  | succ i ih =>
    intro h
    have hx : l[i]? = some l[i] := List.getElem?_eq_getElem Zz
    have h1 := ih Zz
    have h2 := valK_len (isV_size (isT_at hT hx))
    rw [flat_step valK hx, List.length_append]
    omega
theorem xor63 (n : Nat) (h : n < 18446744073709551616) : n ^^^ 9223372036854775808 = (n + 9223372036854775808) % 18446744073709551616 := by
  have h1 : (n ^^^ 9223372036854775808) / 2 ^ 63 = n / 2 ^ 63 ^^^ 9223372036854775808 / 2 ^ 63 := Nat.xor_div_two_pow
  have h2 : (n ^^^ 9223372036854775808) % 2 ^ 63 = n % 2 ^ 63 ^^^ 9223372036854775808 % 2 ^ 63 := Nat.xor_mod_two_pow
  rw [show (9223372036854775808 : Nat) / 2 ^ 63 = 1 by decide] at h1
  rw [show (9223372036854775808 : Nat) % 2 ^ 63 = 0 by decide, Nat.xor_zero] at h2
  rw [show (2 : Nat) ^ 63 = 9223372036854775808 by decide] at h1 h2
  have h3 : n / 9223372036854775808 = 0 ∨ n / 9223372036854775808 = 1 := by omega
  rcases h3 with h3 | h3
  · rw [h3, Nat.zero_xor] at h1; omega
  · rw [h3, Nat.xor_self] at h1; omega
theorem kxor (x : Int) (h : okI x) : IntKind.u64.wrap ((BitVec.ofInt IntKind.u64.bits (x % 18446744073709551616) ^^^ BitVec.ofInt IntKind.u64.bits 9223372036854775808).toNat : Int) = ((keyN x : Nat) : Int) := by
  rw [(keyN_ok h).1, u64_wrap]
  unfold okI at h
  show ((BitVec.ofInt 64 (x % 18446744073709551616) ^^^ 9223372036854775808#64).toNat : Int) % 18446744073709551616 = _
  rw [BitVec.toNat_xor, BitVec.toNat_ofInt, BitVec.toNat_ofNat, Nat.mod_eq_of_lt (a := 9223372036854775808) (by decide), xor63 _ Zz]
  omega
theorem shrK (K c : Nat) (hc : c ≤ 7) : ((K : Nat) : Int).fdiv (2 ^ (min (8 * (7 - (c : Int))).toNat IntKind.u64.bits)) = ((K / 256 ^ (7 - c) : Nat) : Int) := by
  have e : min (8 * (7 - (c : Int))).toNat IntKind.u64.bits = 8 * (7 - c) := by
    show min _ 64 = _
    omega
  rw [e, Int.fdiv_eq_ediv_of_nonneg _ (by exact Int.le_of_lt (Int.pow_pos (by decide)))]
  rw [show (256 : Nat) ^ (7 - c) = 2 ^ (8 * (7 - c)) by rw [Nat.pow_mul]]
  push_cast
  rfl
theorem keyAt_8 (K c : Nat) : IntKind.u8.wrap ((K / 256 ^ (7 - c) : Nat) : Int) = ((keyAt K c).toNat : Int) := by
  rw [u8_wrap, keyAt, UInt8.toNat_ofNat']; omega
theorem range_step (f : Nat → UInt8) (c : Nat) : (List.range (c + 1)).map f = (List.range c).map f ++ [f c] := by
  rw [List.range_succ, List.map_append]; rfl
theorem u8_0 {y : UInt8} (h : ((y.toNat : Nat) : Int) = 0) : y = 0 := UInt8.toNat_inj.1 (by simpa using h)
theorem Key_c {lo hi : Nat} {A : Option Addr} {n c : Nat} {l : List VAL} (w : World) (hs : Sl KV lo hi w A n l) (hhi : hi ≤ w.heap.size) : Ret Tryz.prog 64 #[.slice A n c] w fun r w' => ∃ v, r = .tuple #[v, .int .i64 (if isT l then 0 else 20)] ∧ FreshB w w' v (if isT l then keyB l else []) := by
 have hn := hs.bound
 have hl := hs.len
 refine X.enter Zf64 rfl Tryz.ntmps64 rfl<|Zs<|Zr<|Zoa rfl rfl<|Zoa rfl rfl<|Ze<|Zs<|Zs<|Zr<|Zoms rfl rfl<|Zc (X.callE (may_c _ hs) Tryz.call116 rfl rfl) rfl ?_
 rintro _ w1 ⟨rfl, hk1⟩
 have hk1' := hk1.size
 refine Zo (X.not_ rfl) rfl<|Ze<|X.condB rfl (fun hc => ?_) (fun hc => ?_)
 ·refine Zs<|Zr<|Zoa rfl rfl<|Zoa rfl rfl<|Ze<|X.ret2 (v2 := (.int .i64 _)) Zf64 Tryz.results64 rfl rfl ?_
  rw [if_neg (by simpa using hc), if_neg (by simpa using hc)]
  exact ⟨_, rfl, (Mine.nil _ _ _ _ _ _), hk1⟩
 ·have hT : isT l = true := by simpa using hc
  refine Zk<|Zs<|Zr<|Zoa rfl rfl<|Ze<|Zs<|Zs<|Zr<|Zoms rfl rfl<|Zo (X.lenSl Zu90 rfl) rfl<|Zom rfl rfl<|Ze<|Zb<|X.loopL (σ := Nat × Value) (fun s => [(4, s.2), (13, .slice A n c), (14, .int .i64 (n : Int)), (15, .int .i64 (s.1 : Int))]) (fun s w' => s.1 ≤ n ∧ Mine KB 5 (fun k => w.heap.size ≤ k) 0 0 w' s.2 ((l.take s.1).flatMap valK) ∧ Keep w w') (fun s => n - s.1) (0, _) ⟨rfl, rfl, rfl, rfl, trivial⟩ ⟨Nat.zero_le _, (Mine.nil _ _ _ _ _ _), hk1⟩ ?_
  rintro ⟨i, v⟩ b w1 ⟨hi0, hM, hk⟩ hback
  simp only at hi0 hM
  have hk' := hk.size
  have hlen := keyL_len hT i Zz
  have hn8 := isT_len hT
  refine Zs<|Zr<|X.opP X.wN rfl rfl (X.lss rfl rfl) (fun h16 => ?_) (fun h16 => ?_)
  ·obtain ⟨x, hx⟩ := getN i hl h16
   have hV := KV_ok hs i x hx
   have hN := hV.2.1
   have hsz := isV_size (isT_at hT hx)
   have hKN := keyN_ok hN
   have hsl := sym_len x.2.2
   refine Ze<|Zs<|Zt rfl<|Zk<|Zs<|Zb<|Zs<|Zr<|Zo (X.idxS (hs.keep hk) Zu90 Zs88 rfl rfl ⟨by omega, by omega⟩) rfl<|Zo (X.loadSN Zi88 Zs88 (hs.keep hk) hx rfl (fun _ h => h.1) rfl) rfl<|Zc (X.allocE Zv88 rfl) rfl ?_
   rintro _ w2 ⟨rfl, hB2, hk2, hz2⟩
   refine Zc (X.storeNE Zs88 hB2 rfl rfl rfl rfl (encV_one _)) rfl ?_
   rintro _ w3 ⟨hB3, hx3, hz3⟩
   refine Ze<|Zs<|Zs<|Zr<|Zo (X.fldB (j := 0) Zu88 rfl rfl Zs86 rfl) rfl<|Zo (X.load1B Zi86 hB3 rfl rfl) rfl<|X.opP X.wN rfl rfl (X.eqI rfl rfl) (fun h21 => ?_) (fun h21 => ?_)
   ·have hM6 := Mine.mono (T := fun k => w.heap.size ≤ k ∧ k ≠ w1.heap.size) hM (fun k h1 h2 => ⟨h2, by omega⟩)
    replace hM6 := (hM6.keep (hk2.step hx3 zq34))
    refine Ze<|Zt rfl<|Zs<|Zr<|Zom rfl rfl<|Zc (X.lit1B (y := 1) Zu81 Zs5 Zv5 rfl) rfl ?_
    rintro _ w4 ⟨rfl, hs4, hB4, hk4, hz4⟩
    refine Zc (X.appE (K := KB) (S := fun k => w.heap.size ≤ k ∧ k ≠ w1.heap.size) KB_flat Zu81 E5 rfl rfl (hM6.keep hk4) hs4 zq15 zq34) rfl ?_
    rintro v5 w5 ⟨hM5, hx5⟩
    have hx5' := hx5.size
    refine Zoa rfl rfl<|Ze<|Zs<|Zs<|Zr<|Zoa rfl rfl<|Ze<|Zb<|X.loopL (σ := Nat × Value) (fun s => [(4, s.2), (6, .pointer (some ⟨w1.heap.size, 0, none⟩)), (7, .int .i64 (7 - (s.1 : Int))), (13, .slice A n c), (14, .int .i64 (n : Int)), (15, .int .i64 (i : Int))]) (fun s w' => s.1 ≤ 8 ∧ Mine KB 5 (fun k => w.heap.size ≤ k ∧ k ≠ w1.heap.size) 0 0 w' s.2 ((l.take i).flatMap valK ++ [1] ++ (List.range s.1).map (keyAt (keyN x.2.1))) ∧ Blk w' w1.heap.size (encV x) 88 ∧ Keep w w') (fun s => 8 - s.1) (0, _) ⟨rfl, rfl, rfl, rfl, rfl, rfl, trivial⟩ ⟨by simp only []; omega, by simpa using hM5, ((hB3.keep hk4).ext hx5 zq36), ((((hk.trans hk2).step hx3 zq34).trans hk4).step hx5 zq34)⟩ ?_
    rintro ⟨q, v2⟩ b2 w' ⟨hq, hM2, hB2, hk2⟩ hback2
    simp only at hq hM2 hB2
    have hk2' := hk2.size
    have hB2' := hB2.lt
    refine Zs<|Zs<|Zr<|Zomi rfl rfl<|X.opP X.wN rfl rfl (X.geq rfl rfl) (fun h26 => ?_) (fun h26 => ?_)
    ·refine Ze<|Zt rfl<|Zk<|Zs<|Zb<|Zr<|Zom rfl rfl<|Zo (X.fldB (j := 1) Zu88 rfl rfl Zs2 rfl) rfl<|Zo (X.load1B Zi2 hB2 rfl rfl) rfl<|Zo (X.cvI Zu2 Zu154 rfl (X.u64_wrap _)) rfl<|Zo (X.xor_ rfl rfl (kxor x.2.1 hN)) rfl<|Zomi rfl rfl<|Zo (X.mul rfl rfl (X.w_i64 Zz)) rfl<|Zo (X.cvI Zu3 Tryz.underlying156 rfl (X.w_u64 Zz)) rfl<|Zo (X.shr rfl rfl Zz (shrK _ q Zz)) rfl<|Zo (X.cvI Zu154 Zu5 rfl (keyAt_8 _ q)) rfl<|Zc (X.lit1B Zu81 Zs5 Zv5 rfl) rfl ?_
     rintro _ w6 ⟨rfl, hs6, hB6, hk6, hz6⟩
     refine Zc (X.appE (K := KB) (S := fun k => w.heap.size ≤ k ∧ k ≠ w1.heap.size) KB_flat Zu81 E5 rfl rfl (hM2.keep hk6) hs6 zq15 zq34) rfl ?_
     rintro v7 w7 ⟨hM7, hx7⟩
     have hx7' := hx7.size
     refine Zoa rfl rfl<|Ze<|Zi<|Zr<|Zomi rfl rfl<|Zo (X.sub (c := 7 - ((q + 1 : Nat) : Int)) rfl rfl (by rw [X.w_i64 Zz]; omega)) rfl ?_
     refine Zoai rfl rfl<|Ze ?_
     refine hback2 (q + 1, _) _ _ ⟨rfl, rfl, rfl, rfl, rfl, rfl, trivial⟩ ⟨by simp only []; omega, ?_, ((hB2.keep hk6).ext hx7 zq36), ((hk2.trans hk6).step hx7 zq34)⟩ (by simp only []; omega)
     have e := hM7
     simp only []
     rw [range_step, ← List.append_assoc]
     exact e
    ·refine Ze<|Zf rfl<|Zx rfl<|Zx rfl<|Zr<|Zo (X.add rfl rfl (X.w_i64 Zz)) rfl<|Zomi rfl rfl<|Ze ?_
     refine hback (i + 1, _) _ _ ⟨rfl, rfl, rfl, rfl, trivial⟩ ⟨by simp only []; omega, ?_, hk2⟩ (by simp only []; omega)
     have e := hM2.mono (T := fun k => w.heap.size ≤ k) (fun k _ h => by (try simp only [] at *); omega)
     simp only []
     rw [flat_step valK hx, valK, if_pos h21]
     rw [show q = 8 by omega] at e
     simpa only [List.append_assoc, List.singleton_append] using e
   ·have hM6 := Mine.mono (T := fun k => w.heap.size ≤ k ∧ k ≠ w1.heap.size) hM (fun k h1 h2 => ⟨h2, by omega⟩)
    replace hM6 := (hM6.keep (hk2.step hx3 zq34))
    refine Ze<|Zf rfl<|Zk<|Zs<|Zr<|Zom rfl rfl<|Zc (X.lit1B (y := 2) Zu81 Zs5 Zv5 rfl) rfl ?_
    rintro _ w8 ⟨rfl, hs8, hB8, hk8, hz8⟩
    refine Zc (X.appE (K := KB) (S := fun k => w.heap.size ≤ k ∧ k ≠ w1.heap.size) KB_flat Zu81 E5 rfl rfl (hM6.keep hk8) hs8 zq15 zq34) rfl ?_
    rintro v9 w9 ⟨hM9, hx9⟩
    have hx9' := hx9.size
    refine Zoa rfl rfl<|Ze<|Zs<|Zs<|Zr<|Zo (X.fldB (j := 2) Zu88 rfl rfl Zs9 rfl) rfl<|Zo (X.load1B Zi9 ((hB3.keep hk8).ext hx9 zq36) rfl rfl) rfl ?_
    refine Zc (X.bytesE (K := KB) Zu9 Zu81 Zu5 rfl Zz rfl KB_R) rfl ?_
    rintro _ w10 ⟨c10, rfl, hc10, hs10, hk10, hz10⟩
    refine Zo (X.lenSl Zu81 rfl) rfl<|Zom rfl rfl<|Ze<|Zb ?_
    have hM7 := Mine.mono (T := fun k => w.heap.size ≤ k ∧ k ≠ w1.heap.size ∧ k ≠ w9.heap.size) hM9 (fun k h1 h2 => by (try simp only [] at *); omega)
    refine X.loopL (σ := Nat × Value) (fun s => [(4, s.2), (13, .slice A n c), (14, .int .i64 (n : Int)), (15, .int .i64 (i : Int)), (46, .slice (some ⟨w9.heap.size, 0, none⟩) x.2.2.size c10), (47, .int .i64 (x.2.2.size : Int)), (48, .int .i64 (s.1 : Int))]) (fun s w' => s.1 ≤ x.2.2.size ∧ Mine KB 5 (fun k => w.heap.size ≤ k ∧ k ≠ w1.heap.size ∧ k ≠ w9.heap.size) 0 0 w' s.2 ((l.take i).flatMap valK ++ [2] ++ (x.2.2.data.toList.take s.1).flatMap escB) ∧ Sl KB w9.heap.size (w9.heap.size + 1) w' (some ⟨w9.heap.size, 0, none⟩) x.2.2.size x.2.2.data.toList ∧ w9.heap.size < w'.heap.size ∧ w1.heap.size < w'.heap.size ∧ Keep w w') (fun s => x.2.2.size - s.1) (0, _) ⟨rfl, rfl, rfl, rfl, rfl, rfl, rfl, trivial⟩ ⟨by simp only []; omega, by simpa using (hM7.keep hk10), hs10, by omega, by omega, (((((hk.trans hk2).step hx3 zq34).trans hk8).step hx9 zq34).trans hk10)⟩ ?_
    rintro ⟨j, v3⟩ b3 w' ⟨hj, hM3, hs3, hb3, hb4, hk3⟩ hback3
    simp only at hj hM3 hs3
    have hk3' := hk3.size
    have hel := esc_len (x.2.2.data.toList.take j)
    rw [List.length_take] at hel
    refine Zs<|Zr<|X.opP X.wN rfl rfl (X.lss rfl rfl) (fun h49 => ?_) (fun h49 => ?_)
    ·obtain ⟨y, hy⟩ := getN j hsl h49
     refine Ze<|Zs<|Zt rfl<|Zk<|Zs<|Zb<|Zs<|Zr<|Zo (X.idxS hs3 Zu81 Zs5 rfl rfl ⟨by omega, by omega⟩) rfl<|Zo (X.loadS Zi5 hs3 hy rfl (fun _ h => by rw [h.1]; rfl)) rfl ?_
     refine Zoab rfl rfl<|Ze<|Zs<|Zr<|Zom rfl rfl<|Zomb rfl rfl<|Zc (X.lit1B Zu81 Zs5 Zv5 rfl) rfl ?_
     rintro _ w11 ⟨rfl, hs11, hB11, hk11, hz11⟩
     refine Zc (X.appE (K := KB) (S := fun k => w.heap.size ≤ k ∧ k ≠ w1.heap.size ∧ k ≠ w9.heap.size) KB_flat Zu81 E5 rfl rfl (hM3.keep hk11) hs11 zq15 zq34) rfl ?_
     rintro v12 w12 ⟨hM12, hx12⟩
     have hx12' := hx12.size
     refine Zoa rfl rfl<|Ze<|Zs<|Zr<|Zomb rfl rfl<|X.opP X.wN rfl rfl (X.eqI rfl rfl) (fun h57 => ?_) (fun h57 => ?_)
     ·refine Ze<|Zt rfl<|Zr<|Zom rfl rfl<|Zc (X.lit1B (y := 255) Zu81 Zs5 Zv5 rfl) rfl ?_
      rintro _ w13 ⟨rfl, hs13, hB13, hk13, hz13⟩
      refine Zc (X.appE (K := KB) (S := fun k => w.heap.size ≤ k ∧ k ≠ w1.heap.size ∧ k ≠ w9.heap.size) KB_flat Zu81 E5 rfl rfl (hM12.keep hk13) hs13 zq15 zq34) rfl ?_
      rintro v14 w14 ⟨hM14, hx14⟩
      have hx14' := hx14.size
      refine Zoa rfl rfl<|Ze<|Zi<|Zr<|Zo (X.add rfl rfl (X.w_i64 Zz)) rfl<|Zomi rfl rfl<|Ze ?_
      refine hback3 (j + 1, _) _ _ ⟨rfl, rfl, rfl, rfl, rfl, rfl, rfl, trivial⟩ ⟨by simp only []; omega, ?_, ((((hs3.keep hk11).ext hx12 zq36).keep hk13).ext hx14 zq36), by omega, by omega, ((((hk3.trans hk11).step hx12 zq34).trans hk13).step hx14 zq34)⟩ (by simp only []; omega)
      have e := hM14
      simp only []
      rw [flat_step escB hy, ← List.append_assoc, escB, if_pos (u8_0 h57)]
      rw [u8_0 h57] at e
      simpa only [List.append_assoc, List.singleton_append] using e
     ·refine Ze<|Zf rfl<|Zk<|Zi<|Zr<|Zo (X.add rfl rfl (X.w_i64 Zz)) rfl<|Zomi rfl rfl<|Ze ?_
      refine hback3 (j + 1, _) _ _ ⟨rfl, rfl, rfl, rfl, rfl, rfl, rfl, trivial⟩ ⟨by simp only []; omega, ?_, ((hs3.keep hk11).ext hx12 zq36), by omega, by omega, ((hk3.trans hk11).step hx12 zq34)⟩ (by simp only []; omega)
      have e := hM12
      simp only []
      rw [flat_step escB hy, ← List.append_assoc, escB, if_neg (fun e => h57 (by rw [e]; rfl))]
      exact e
    ·refine Ze<|Zs<|Zf rfl<|Zx rfl<|Zr<|Zom rfl rfl<|Zc (X.lit2B (x := 0) (y := 1) Zu81 Zs5 Zv5 ⟨rfl, rfl⟩ ⟨rfl, rfl⟩) rfl ?_
     rintro _ w15 ⟨rfl, hs15, hB15, hk15, hz15⟩
     refine Zc (X.appE (K := KB) (S := fun k => w.heap.size ≤ k ∧ k ≠ w1.heap.size ∧ k ≠ w9.heap.size) KB_flat Zu81 E5 rfl rfl (hM3.keep hk15) hs15 zq15 zq34) rfl ?_
     rintro v16 w16 ⟨hM16, hx16⟩
     have hx16' := hx16.size
     refine Zoa rfl rfl<|Ze<|Zi<|Zr<|Zo (X.add rfl rfl (X.w_i64 Zz)) rfl<|Zomi rfl rfl<|Ze ?_
     refine hback (i + 1, _) _ _ ⟨rfl, rfl, rfl, rfl, trivial⟩ ⟨by simp only []; omega, ?_, ((hk3.trans hk15).step hx16 zq34)⟩ (by simp only []; omega)
     have e := hM16.mono (T := fun k => w.heap.size ≤ k) (fun k _ h => by (try simp only [] at *); omega)
     simp only []
     rw [flat_step valK hx, valK, if_neg h21]
     rw [show j = x.2.2.data.toList.length by omega, List.take_length] at e
     simpa only [List.append_assoc, List.singleton_append, List.cons_append, List.nil_append] using e
  ·refine Ze<|Zs<|Zf rfl<|Zx rfl<|Zs<|Zr<|Zom rfl rfl<|Zoa rfl rfl<|Zoa rfl rfl<|Ze<|X.ret2 (v2 := (.int .i64 _)) Zf64 Tryz.results64 rfl rfl ?_
   have e := hM
   rw [show i = l.length by omega, List.take_length] at e
   refine ⟨_, by rw [if_pos hT], ?_, hk⟩
   rw [if_pos hT]
   exact e
theorem drop_at {α : Type} {l : List α} {i : Nat} {x : α} (hx : l[i]? = some x) : l.drop i = x :: l.drop (i + 1) := by
  obtain ⟨h, rfl⟩ := List.getElem?_eq_some_iff.1 hx
  exact List.drop_eq_getElem_cons h
/-! ### The order of keys -/
def dig : Nat → Nat → List UInt8
  | 0, _ => []
  | n + 1, K => UInt8.ofNat (K / 256 ^ n) :: dig n K
theorem dig_8 (K : Nat) : (List.range 8).map (keyAt K) = dig 8 K := by
  have : List.range 8 = [0, 1, 2, 3, 4, 5, 6, 7] := by decide
  rw [this]
  rfl
theorem isV_cases {v : VAL} (h : isV v = true) : (v.1 = 1 ∧ v.2.2 = ⟨#[]⟩) ∨ (v.1 = 2 ∧ v.2.1 = 0 ∧ v.2.2.size ≤ 256) := by simpa [isV] using h
theorem valK_1 {v : VAL} (h : v.1 = 1) : valK v = 1 :: dig 8 (keyN v.2.1) := by rw [valK, if_pos h, dig_8]
theorem valK_2 {v : VAL} (h : v.1 = 2) : valK v = 2 :: (v.2.2.data.toList.flatMap escB ++ [0, 1]) := by rw [valK, if_neg Zz]
theorem isT_all {l : List VAL} (h : isT l = true) : ∀ v ∈ l, isV v = true := by
  simp only [isT, Bool.and_eq_true, List.all_eq_true] at h
  exact h.1
theorem n20 {b : Bool} (h : ¬ (if b = true then (0 : Int) else 20) ≠ 0) : b = true := by cases b <;> simp_all
def cntB (l : List VAL) (N : Int) : List UInt8 := tupB l ++ numB (zig N).toNat
theorem tupB_len {lo hi : Nat} {w : World} {A : Option Addr} {n : Nat} {l : List VAL} (h : Sl KV lo hi w A n l) (hT : isT l = true) : (tupB l).length ≤ 9000000 := by
  have h1 := flat_len hT (fun i x hx => KV_ok h i x hx) l.length (Nat.le_refl _)
  have h2 := isT_len hT
  rw [List.take_length] at h1
  rw [tupB, List.length_cons]; omega
theorem Counted_c {lo hi : Nat} {A : Option Addr} {n c : Nat} {l : List VAL} (N : Int) (hN : okI N) (w : World) (hs : Sl KV lo hi w A n l) (hhi : hi ≤ w.heap.size) : Ret Tryz.prog 150 #[.agg #[.slice A n c, .int .i64 N]] w fun r w' => ∃ v, r = .tuple #[v, .int .i64 (if isT l then 0 else 20)] ∧ FreshB w w' v (if isT l then cntB l N else []) := by
 refine X.enter Tryz.func150 rfl Tryz.ntmps150 rfl<|Zs<|Zr<|Zc (X.boxE rfl rfl) rfl ?_
 rintro _ w1 ⟨rfl, hB1, hk1, hz1⟩
 refine Zoa rfl rfl<|Zoa rfl rfl<|Ze<|Zs<|Zr<|Zo (X.fldB (j := 0) Zu92 rfl rfl Zs90 rfl) rfl<|Zo (X.load1B Zi90 hB1 rfl rfl) rfl<|Zc (X.callE (Tuple_c _ (hs.keep hk1) Zz) Tryz.call179 rfl rfl) rfl ?_
 rintro _ w2 ⟨v2, rfl, hM2, hk2⟩
 have hk2' := hk2.size
 refine Zom rfl rfl<|Zo (X.extr rfl rfl) rfl<|Zo (X.extr rfl rfl) rfl<|Zoa rfl rfl<|Zoai rfl rfl<|Ze<|Zs<|Zs<|Zr<|Zomi rfl rfl<|X.opP X.wN rfl rfl (X.neI rfl rfl) (fun h13 => ?_) (fun h13 => ?_)
 ·have hT : ¬ isT l = true := fun e => h13 (if_pos e)
  refine Ze<|Zt rfl<|Zs<|Zr<|Zomi rfl rfl<|Zoa rfl rfl<|Zoai rfl rfl<|Ze<|X.ret2 (v2 := (.int .i64 _)) Tryz.func150 Tryz.results150 rfl rfl ?_
  exact ⟨_, by rw [if_neg hT], by rw [if_neg hT]; exact (Mine.nil _ _ _ _ _ _), (hk1.trans hk2)⟩
 ·have hT := n20 h13
  rw [if_pos hT] at hM2
  have ht := tupB_len hs hT
  have hz := numB_10 _ (zig_ok N hN).2
  refine Ze<|Zf rfl<|Zk<|Zs<|Zr<|Zom rfl rfl<|Zo (X.fldB (j := 1) Zu92 rfl rfl Zs2 rfl) rfl<|Zo (X.load1B Zi2 (hB1.keep hk2) rfl rfl) rfl<|Zc (X.callE (Int_c _ hN _) Tryz.call180 rfl rfl) rfl ?_
  rintro v3 w3 ⟨hM3, hk3⟩
  have hk3' := hk3.size
  obtain ⟨A4, c4, rfl, hc4, hs4⟩ := hM3.slF KB_flat 0 (fun _ _ => Nat.zero_le _)
  refine Zc (X.appE (K := KB) (S := fun k => w.heap.size ≤ k) KB_flat Zu81 E5 rfl rfl (Mine.mono (T := fun k => w.heap.size ≤ k) (hM2.keep hk3) (fun k h1 h2 => by (try simp only [] at *); omega)) hs4 zq15 zq34) rfl ?_
  rintro v5 w5 ⟨hM5, hx5⟩
  have hx5' := hx5.size
  refine Zoa rfl rfl<|Zoa rfl rfl<|Ze<|X.ret2 (v2 := (.int .i64 _)) Tryz.func150 Tryz.results150 rfl rfl ?_
  exact ⟨_, by rw [if_pos hT], by rw [if_pos hT]; exact hM5, (((hk1.trans hk2).trans hk3).step hx5 zq34)⟩
abbrev FAULT : Value := .iface 226 (.agg #[])
def Rd (w : World) (hi rb T : Nat) (xs : List UInt8) : Prop :=
  ∃ A c, xs.length ≤ c ∧ Blk w rb [.slice A xs.length c, .int .i64 ((T : Int) - (xs.length : Int))] 224 ∧ Sl KB 0 hi w A xs.length xs ∧ hi ≤ rb ∧ xs.length ≤ T ∧ T ≤ 1000000
theorem Rd.keep {w w' : World} {hi rb T : Nat} {xs : List UInt8} (h : Rd w hi rb T xs) (x : Keep w w') : Rd w' hi rb T xs := by
  obtain ⟨A, c, h1, h2, h3, h4⟩ := h
  exact ⟨A, c, h1, h2.keep x, h3.keep x, h4⟩
theorem Rd.ext {w w' : World} {hi rb T : Nat} {xs : List UInt8} {U : Nat → Prop} (h : Rd w hi rb T xs) (x : Ext U w w') (hU : ∀ k, k ≤ rb → ¬ U k) : Rd w' hi rb T xs := by
  obtain ⟨A, c, h1, h2, h3, h4, h5⟩ := h
  exact ⟨A, c, h1, h2.ext x (hU rb (Nat.le_refl _)), h3.ext x (fun k _ hk => hU k Zz), h4, h5⟩
theorem Rd.lt {w : World} {hi rb T : Nat} {xs : List UInt8} (h : Rd w hi rb T xs) : rb < w.heap.size := by
  obtain ⟨A, c, h1, h2, _⟩ := h
  exact h2.lt
theorem Rd.T {w : World} {hi rb T : Nat} {xs : List UInt8} (h : Rd w hi rb T xs) : hi ≤ rb ∧ xs.length ≤ T ∧ T ≤ 1000000 := by
  obtain ⟨A, c, h1, h2, h3, h4⟩ := h
  exact h4
def PP {α : Type} (f : Nat) (args : Array Value) (w : World) (hi rb T : Nat) (p : Option (α × List UInt8)) (V : α → Value → World → Prop) : Prop :=
  PRet Tryz.prog f args w FAULT p (fun b v w' => V b.1 v w' ∧ Rd w' hi rb T b.2 ∧ Ext (fun k => k = rb) w w') (fun w' => Ext (fun k => k = rb) w w')
theorem over_c {A : Option Addr} {n c : Nat} {xs : List UInt8} (w : World) (hs : Sl KB 0 w.heap.size w A n xs) (hnc : n ≤ c) (hn : n ≤ 1000000) : Ret Tryz.prog 160 #[.slice A n c] w fun r w' => r = .pointer (some ⟨w.heap.size, 0, none⟩) ∧ Rd w' w.heap.size w.heap.size n xs ∧ Keep w w' ∧ w'.heap.size = w.heap.size + 1 := by
 have hl := hs.len
 subst hl
 refine X.enter Tryz.func160 rfl Tryz.ntmps160 rfl<|Zs<|Zr<|Zoa rfl rfl<|Ze<|Zs<|Zr<|Zoms rfl rfl<|Zo (X.buildB (cs := #[.slice A xs.length c]) rfl Zl) rfl<|Zo (X.buildB (cs := #[.slice A xs.length c, .int .i64 0]) rfl Zl) rfl<|Zc (X.boxE rfl rfl) rfl ?_
 rintro _ w1 ⟨rfl, hB1, hk1, hz1⟩
 refine Zoa rfl rfl<|Ze<|X.ret1 Tryz.func160 Tryz.results160 rfl ?_
 exact ⟨rfl, ⟨A, c, hnc, by rw [Int.sub_self]; exact hB1, hs.keep hk1, Nat.le_refl _, Nat.le_refl _, hn⟩, hk1, by omega⟩
theorem some_c (hi rb T : Nat) (xs : List UInt8) (m : Int) (h0 : 0 ≤ m) (w : World) (hr : Rd w hi rb T xs) :
    PRet Tryz.prog 161 #[.pointer (some ⟨rb, 0, none⟩), .int .i64 m] w FAULT (if m ≤ (xs.length : Int) then some () else none)
      (fun _ v w' => (∃ A c, v = .slice A m.toNat c ∧ m.toNat ≤ c ∧ Sl KB 0 hi w' A m.toNat (xs.take m.toNat)) ∧ Rd w' hi rb T (xs.drop m.toNat) ∧ Ext (fun k => k = rb) w w') (fun w' => Ext (fun k => k = rb) w w') := by
 obtain ⟨A, c, hnc, hB, hs, hhr, hT1, hT2⟩ := hr
 refine X.enter Tryz.func161 rfl Tryz.ntmps161 rfl<|Zs<|Zr<|Zoa rfl rfl<|Ze<|Zs<|Zs<|Zr<|Zomi rfl rfl<|Zom rfl rfl<|Zo (X.nilCk rfl) rfl<|Zo (X.fldB (j := 0) Zu224 rfl rfl Zs222 rfl) rfl<|Zo (X.fldB (j := 0) Zu222 rfl rfl Zs81 rfl) rfl<|Zo (X.load1B Zi81 hB rfl rfl) rfl<|Zo (X.lenSl Zu81 rfl) rfl<|X.opP X.wN rfl rfl (X.gtr rfl rfl) (fun h13 => ?_) (fun h13 => ?_)
 ·rw [if_neg Zz]
  refine Ze<|Zt rfl<|Zr<|Zo (X.buildB (cs := #[]) rfl Zl) rfl<|Zo (X.mkIface Zu226 rfl rfl) rfl<|X.opPanic X.wN rfl<|X.unw_pan Tryz.func161 ?_
  exact ⟨rfl, (Ext.refl (fun k => k = rb) _)⟩
 ·have hm : m.toNat ≤ xs.length := by omega
  rw [if_pos Zz]
  refine Ze<|Zf rfl<|Zk<|Zs<|Zr<|Zom rfl rfl<|Zo (X.nilCk rfl) rfl<|Zo (X.fldB (j := 0) Zu224 rfl rfl Zs222 rfl) rfl<|Zo (X.fldB (j := 0) Zu222 rfl rfl Zs81 rfl) rfl<|Zo (X.load1B Zi81 hB rfl rfl) rfl<|Zomi rfl rfl<|Zo (X.cutHr Zu81 Zs5 rfl rfl Zz) rfl<|Zoas rfl rfl<|Ze<|Zs<|Zr<|Zom rfl rfl<|Zom rfl rfl<|Zo (X.nilCk rfl) rfl<|Zo (X.fldB (j := 0) Zu224 rfl rfl Zs222 rfl) rfl<|Zo (X.fldB (j := 0) Zu222 rfl rfl Zs81 rfl) rfl<|Zo (X.load1B Zi81 hB rfl rfl) rfl<|Zomi rfl rfl<|Zo (X.cutL Zu81 Zs5 rfl rfl Zz) rfl<|Zo (X.nilCk rfl) rfl<|Zo (X.fldB (j := 0) Zu224 rfl rfl Zs222 rfl) rfl<|Zo (X.fldB (j := 0) Zu222 rfl rfl Zs81 rfl) rfl<|Zc (X.storeE Zs81 hB rfl rfl rfl rfl) rfl ?_
  rintro _ w1 ⟨hB1, hx1, hz1⟩
  refine Ze<|Zs<|Zr<|Zom rfl rfl<|Zo (X.nilCk rfl) rfl<|Zo (X.fldB (j := 1) Zu224 rfl rfl Zs3 rfl) rfl<|Zo (X.load1B Zi3 hB1 rfl rfl) rfl<|Zomi rfl rfl<|Zo (X.add rfl rfl (X.w_i64 Zz)) rfl<|Zo (X.nilCk rfl) rfl<|Zo (X.fldB (j := 1) Zu224 rfl rfl Zs3 rfl) rfl<|Zc (X.storeE Zs3 hB1 rfl rfl rfl rfl) rfl ?_
  rintro _ w2 ⟨hB2, hx2, hz2⟩
  refine Ze<|Zs<|Zr<|Zoms rfl rfl<|Zoas rfl rfl<|Ze<|X.ret1 Tryz.func161 Tryz.results161 rfl ?_
  refine ⟨_, rfl, ⟨A, c, rfl, by omega, (((hs.take _ Zz).ext hx1 zq36).ext hx2 zq36)⟩, ?_, (Ext.andThen (Ext.andThen (Ext.refl (fun k => k = rb) _) hx1 zq30) hx2 zq30)⟩
  have hd : (xs.drop m.toNat).length = xs.length - m.toNat := List.length_drop
  refine ⟨_, _, ?_, by rw [hd]; have e := hB2; rw [show (T : Int) - ((xs.length - m.toNat : Nat) : Int) = (T : Int) - (xs.length : Int) + m by omega]; exact e, by rw [hd]; exact (((hs.ext hx1 zq36).ext hx2 zq36).drop m.toNat c hm hnc), hhr, by omega, hT2⟩
  omega
theorem head_some {l : List UInt8} {x : UInt8} (h : l.head? = some x) : ∃ ys, l = x :: ys := by
  cases l with
  | nil => cases h
  | cons y ys => cases h; exact ⟨ys, rfl⟩
theorem head_none {l : List UInt8} (h : l.head? = none) : l = [] := by
  cases l with
  | nil => rfl
  | cons y ys => cases h
theorem some1_c (hi rb T : Nat) (xs : List UInt8) (w : World) (hr : Rd w hi rb T xs) :
    PRet Tryz.prog 161 #[.pointer (some ⟨rb, 0, none⟩), .int .i64 1] w FAULT xs.head?
      (fun x v w' => (∃ A c, v = .slice A 1 c ∧ 1 ≤ c ∧ Sl KB 0 hi w' A 1 [x]) ∧ Rd w' hi rb T xs.tail ∧ Ext (fun k => k = rb) w w') (fun w' => Ext (fun k => k = rb) w w') := by
  refine (some_c hi rb T xs 1 (by decide) w hr).mono fun o w' h => ?_
  cases xs with
  | nil => exact h
  | cons x ys =>
    rw [if_pos (by simp only [List.length_cons]; omega)] at h
    exact h
def pNum : Nat → Nat → List UInt8 → Option (Nat × List UInt8)
  | _, _, [] => none
  | i, acc, c :: xs => if (i = 9 ∧ 1 < c.toNat) ∨ (0 < i ∧ c.toNat = 0) then none else if c.toNat < 128 then some (acc + c.toNat % 128 * 128 ^ i, xs) else pNum (i + 1) (acc + c.toNat % 128 * 128 ^ i) xs
theorem pow128 (i : Nat) (h : i ≤ 9) : 128 ^ i * 128 = 128 ^ (i + 1) ∧ 0 < 128 ^ i ∧ (i ≤ 8 → 128 ^ (i + 1) ≤ 9223372036854775808) ∧ (i = 9 → 128 ^ i = 9223372036854775808) := by
  refine ⟨(Nat.pow_succ ..).symm, Nat.pow_pos (by decide), fun h8 => ?_, fun h9 => by subst h9; decide⟩
  have : 128 ^ (i + 1) ≤ 128 ^ 9 := Nat.pow_le_pow_right (by decide) Zz
  exact Nat.le_trans this (by decide)
theorem num_bound {i acc : Nat} (c : UInt8) (hi : i ≤ 9) (ha : acc < 128 ^ i) (h9 : ¬ (i = 9 ∧ 1 < c.toNat)) : acc + c.toNat % 128 * 128 ^ i < 18446744073709551616 ∧ acc + c.toNat % 128 * 128 ^ i < 128 ^ (i + 1) ∧ (128 ≤ c.toNat → i ≤ 8) := by
  obtain ⟨p1, p2, p3, p4⟩ := pow128 i hi
  have hc : c.toNat % 128 ≤ 127 := by omega
  have hm := Nat.mul_le_mul_right (128 ^ i) hc
  have hm2 : c.toNat ≤ 1 → c.toNat % 128 * 128 ^ i ≤ 1 * 128 ^ i := fun h => Nat.mul_le_mul_right _ Zz
  generalize c.toNat % 128 * 128 ^ i = q at *
  refine ⟨?_, by omega, fun h => by omega⟩
  rcases (by omega : i ≤ 8 ∨ i = 9) with h | h
  · have := p3 h; omega
  · have := p4 h
    subst h
    have h1 := hm2 Zz
    omega
theorem u8_and (c : UInt8) : IntKind.u8.wrap ((BitVec.ofInt IntKind.u8.bits (c.toNat : Int) &&& BitVec.ofInt IntKind.u8.bits 127).toNat : Int) = ((c.toNat % 128 : Nat) : Int) := by
  have hc := c.toNat_lt
  show IntKind.u8.wrap ((BitVec.ofInt 8 (c.toNat : Int) &&& 127#8).toNat : Int) = _
  rw [BitVec.ofInt_natCast, BitVec.toNat_and, BitVec.toNat_ofNat, BitVec.toNat_ofNat, u8_wrap]
  have : c.toNat % 2 ^ 8 &&& 127 % 2 ^ 8 = c.toNat % 128 := by
    rw [show (127 : Nat) % 2 ^ 8 = 2 ^ 7 - 1 by decide, Nat.and_two_pow_sub_one_eq_mod]
    omega
  rw [this]; omega
theorem pow7 (i : Nat) : (128 : Nat) ^ i = 2 ^ (7 * i) := by rw [Nat.pow_mul]
theorem shl_7 (d i : Nat) (hi : i ≤ 9) (h : d * 128 ^ i < 18446744073709551616) : IntKind.u64.wrap (((d : Nat) : Int) * 2 ^ (min (7 * (i : Int)).toNat IntKind.u64.bits)) = ((d * 128 ^ i : Nat) : Int) := by
  have e : min (7 * (i : Int)).toNat IntKind.u64.bits = 7 * i := by
    show min _ 64 = _
    omega
  rw [e, show ((d : Int) * 2 ^ (7 * i)) = ((d * 128 ^ i : Nat) : Int) by rw [pow7]; push_cast; rfl]
  exact w_u64 Zz
theorem or_7 (acc d i : Nat) (ha : acc < 128 ^ i) (h : acc + d * 128 ^ i < 18446744073709551616) : IntKind.u64.wrap ((BitVec.ofInt IntKind.u64.bits ((acc : Nat) : Int) ||| BitVec.ofInt IntKind.u64.bits ((d * 128 ^ i : Nat) : Int)).toNat : Int) = ((acc + d * 128 ^ i : Nat) : Int) := by
  show IntKind.u64.wrap ((BitVec.ofInt 64 ((acc : Nat) : Int) ||| BitVec.ofInt 64 ((d * 128 ^ i : Nat) : Int)).toNat : Int) = _
  have e : acc ||| d * 128 ^ i = acc + d * 128 ^ i := by
    rw [pow7] at ha ⊢
    rw [Nat.or_comm, Nat.mul_comm d, ← Nat.two_pow_add_eq_or_of_lt ha, Nat.add_comm]
  rw [BitVec.ofInt_natCast, BitVec.ofInt_natCast, BitVec.toNat_or, BitVec.toNat_ofNat, BitVec.toNat_ofNat, Nat.mod_eq_of_lt Zz, Nat.mod_eq_of_lt Zz, e]
  exact w_u64 Zz
theorem num_c (hi rb T : Nat) (xs : List UInt8) (w : World) (hr : Rd w hi rb T xs) : PP 157 #[.pointer (some ⟨rb, 0, none⟩)] w hi rb T (pNum 0 0 xs) (fun a v _ => v = .int .u64 ((a : Nat) : Int) ∧ a < 18446744073709551616) := by
 have hrl := hr.lt
 refine X.enter Zf157 rfl Tryz.ntmps157 rfl<|Zs<|Zr<|Zoa rfl rfl<|Ze<|Zs<|Zr<|Zoa rfl rfl<|Ze<|Zs<|Zr<|Zoa rfl rfl<|Ze<|Zb<|X.loopL (σ := Nat × Nat × List UInt8) (fun s => [(0, .pointer (some ⟨rb, 0, none⟩)), (3, .int .u64 ((s.2.1 : Nat) : Int)), (4, .int .u64 ((s.1 : Nat) : Int))]) (fun s w' => s.1 ≤ 9 ∧ s.2.1 < 128 ^ s.1 ∧ Rd w' hi rb T s.2.2 ∧ pNum s.1 s.2.1 s.2.2 = pNum 0 0 xs ∧ Ext (fun k => k = rb) w w') (fun s => s.2.2.length) (0, 0, xs) ⟨rfl, rfl, rfl, trivial⟩ ⟨by simp, by simp, hr, rfl, (Ext.refl (fun k => k = rb) _)⟩ ?_
 rintro ⟨i, acc, l⟩ b wl ⟨hi0, ha, hR, hp, hk⟩ hback
 simp only at hi0 ha hR hp
 have hk' := hk.size
 refine Zs<|Zb<|Zs<|Zr<|Zom rfl rfl<|X.opPR (some1_c hi rb T _ _ hR) X.wN rfl Zc161 rfl (fun x1 hb1 => ?_) (fun hb1 => ?_)
 ·rintro _ w1 ⟨⟨A1, c1, rfl, hcc1, hs1⟩, hR1, hx1⟩
  have hx1' := hx1.size
  obtain ⟨ys1, rfl⟩ := head_some hb1
  simp only [List.tail_cons] at hR1
  refine Zo (X.idxS hs1 Zu81 Zs5 rfl rfl ⟨by omega, by omega⟩) rfl<|Zo (X.loadS Zi5 hs1 (j := 0) rfl rfl (fun _ h => by rw [h.1]; rfl)) rfl ?_
  refine Zoab rfl rfl<|Ze<|Zs<|Zs<|Zr<|Zomu rfl rfl<|X.opP X.wN rfl rfl (X.eqI rfl rfl) (fun h13 => ?_) (fun h13 => ?_)
  ·refine Zomt rfl rfl<|Zg (Zdmb rfl) rfl rfl rfl rfl<|X.opP (X.wG rfl rfl rfl) rfl rfl (X.gtr rfl rfl) (fun h16 => ?_) (fun h16 => ?_)
   ·refine Zo (ZdTt rfl rfl) rfl<|Zomt rfl rfl<|Zp rfl rfl rfl<|Zp rfl rfl rfl<|Zp rfl rfl rfl<|Zu rfl rfl rfl<|Zu rfl rfl rfl<|Zp rfl rfl rfl<|Zo (ZdTt rfl rfl) rfl<|Ze<|Zt rfl<|Zr<|Zo (X.buildB (cs := #[]) rfl Zl) rfl<|Zo (X.mkIface Zu226 rfl rfl) rfl<|X.opPanic X.wN rfl<|X.unw_pan Zf157 ?_
    first
    | (rw [← hp, head_none hb1]; exact ⟨rfl, (Ext.andThen (Ext.andThen (Ext.refl (fun k => k = rb) _) hk zq30) hx1 zq30)⟩)
    | (rw [← hp, pNum, if_pos Zz]; exact ⟨rfl, (Ext.andThen (Ext.andThen (Ext.refl (fun k => k = rb) _) hk zq30) hx1 zq30)⟩)
   ·refine Zo (ZdTf rfl rfl) rfl<|Zomf rfl rfl<|Zg (Zdmu rfl) rfl rfl rfl rfl<|X.opP (X.wG rfl rfl rfl) rfl rfl (X.gtr rfl rfl) (fun h20 => ?_) (fun h20 => ?_)
    ·refine Zg (Zdmt rfl) rfl rfl rfl rfl<|Zg (Zdmb rfl) rfl rfl rfl rfl<|X.opP (X.wG rfl rfl rfl) rfl rfl (X.eqI rfl rfl) (fun h23 => ?_) (fun h23 => ?_)
     ·refine Zg (ZdTt rfl rfl) rfl rfl rfl rfl<|Zo (ZdFt rfl rfl) rfl<|Ze<|Zt rfl<|Zr<|Zo (X.buildB (cs := #[]) rfl Zl) rfl<|Zo (X.mkIface Zu226 rfl rfl) rfl<|X.opPanic X.wN rfl<|X.unw_pan Zf157 ?_
      first
      | (rw [← hp, head_none hb1]; exact ⟨rfl, (Ext.andThen (Ext.andThen (Ext.refl (fun k => k = rb) _) hk zq30) hx1 zq30)⟩)
      | (rw [← hp, pNum, if_pos Zz]; exact ⟨rfl, (Ext.andThen (Ext.andThen (Ext.refl (fun k => k = rb) _) hk zq30) hx1 zq30)⟩)
     ·refine Zg (ZdTf rfl rfl) rfl rfl rfl rfl<|Zo (ZdFf rfl rfl) rfl<|Ze<|Zf rfl<|Zk<|Zs<|Zr<|Zomu rfl rfl<|Zomb rfl rfl<|Zo (X.and_ rfl rfl (u8_and x1)) rfl<|Zo (X.cvI Zu5 Zu154 rfl (X.w_u64 Zz)) rfl<|Zomu rfl rfl<|Zo (X.mul rfl rfl (X.w_u64 Zz)) rfl<|Zo (X.shl rfl rfl Zz (shl_7 _ i hi0 (Nat.lt_of_le_of_lt (Nat.le_add_left _ acc) (num_bound x1 hi0 ha Zz).1))) rfl<|Zo (X.or_ rfl rfl (or_7 acc _ i ha (num_bound x1 hi0 ha Zz).1)) rfl<|Zoau rfl rfl<|Ze<|Zs<|Zr<|Zomb rfl rfl<|X.opP X.wN rfl rfl (X.lss rfl rfl) (fun h37 => ?_) (fun h37 => ?_)
      ·refine Ze<|Zt rfl<|Zs<|Zr<|Zomu rfl rfl<|Zoau rfl rfl<|Ze<|X.ret1 (v := (.int .u64 _)) Zf157 Zr157 rfl ?_
       rw [← hp, pNum, if_neg Zz, if_pos Zz]
       exact ⟨_, rfl, ⟨rfl, (num_bound x1 hi0 ha Zz).1⟩, hR1, (Ext.andThen (Ext.andThen (Ext.refl (fun k => k = rb) _) hk zq30) hx1 zq30)⟩
      ·refine Ze<|Zf rfl<|Zk<|Zi<|Zr<|Zomu rfl rfl<|Zo (X.add rfl rfl (X.w_u64 Zz)) rfl<|Zoau rfl rfl<|Ze ?_
       refine hback (i + 1, acc + x1.toNat % 128 * 128 ^ i, ys1) _ _ ⟨rfl, rfl, rfl, trivial⟩ ⟨by have := (num_bound x1 hi0 ha Zz).2.2; simp only []; omega, (num_bound x1 hi0 ha Zz).2.1, hR1, by rw [← hp, pNum, if_neg Zz, if_neg Zz], (Ext.andThen (Ext.andThen (Ext.refl (fun k => k = rb) _) hk zq30) hx1 zq30)⟩ (by simp)
    ·refine Zg (Zdmf rfl) rfl rfl rfl rfl<|Zp rfl rfl rfl<|Zp rfl rfl rfl<|Zg (ZdFf rfl rfl) rfl rfl rfl rfl<|Zo (ZdFf rfl rfl) rfl<|Ze<|Zf rfl<|Zk<|Zs<|Zr<|Zomu rfl rfl<|Zomb rfl rfl<|Zo (X.and_ rfl rfl (u8_and x1)) rfl<|Zo (X.cvI Zu5 Zu154 rfl (X.w_u64 Zz)) rfl<|Zomu rfl rfl<|Zo (X.mul rfl rfl (X.w_u64 Zz)) rfl<|Zo (X.shl rfl rfl Zz (shl_7 _ i hi0 (Nat.lt_of_le_of_lt (Nat.le_add_left _ acc) (num_bound x1 hi0 ha Zz).1))) rfl<|Zo (X.or_ rfl rfl (or_7 acc _ i ha (num_bound x1 hi0 ha Zz).1)) rfl<|Zoau rfl rfl<|Ze<|Zs<|Zr<|Zomb rfl rfl<|X.opP X.wN rfl rfl (X.lss rfl rfl) (fun h37 => ?_) (fun h37 => ?_)
     ·refine Ze<|Zt rfl<|Zs<|Zr<|Zomu rfl rfl<|Zoau rfl rfl<|Ze<|X.ret1 (v := (.int .u64 _)) Zf157 Zr157 rfl ?_
      rw [← hp, pNum, if_neg Zz, if_pos Zz]
      exact ⟨_, rfl, ⟨rfl, (num_bound x1 hi0 ha Zz).1⟩, hR1, (Ext.andThen (Ext.andThen (Ext.refl (fun k => k = rb) _) hk zq30) hx1 zq30)⟩
     ·refine Ze<|Zf rfl<|Zk<|Zi<|Zr<|Zomu rfl rfl<|Zo (X.add rfl rfl (X.w_u64 Zz)) rfl<|Zoau rfl rfl<|Ze ?_
      refine hback (i + 1, acc + x1.toNat % 128 * 128 ^ i, ys1) _ _ ⟨rfl, rfl, rfl, trivial⟩ ⟨by have := (num_bound x1 hi0 ha Zz).2.2; simp only []; omega, (num_bound x1 hi0 ha Zz).2.1, hR1, by rw [← hp, pNum, if_neg Zz, if_neg Zz], (Ext.andThen (Ext.andThen (Ext.refl (fun k => k = rb) _) hk zq30) hx1 zq30)⟩ (by simp)
  ·refine Zomf rfl rfl<|Zp rfl rfl rfl<|Zp rfl rfl rfl<|Zo (ZdFf rfl rfl) rfl<|Zomf rfl rfl<|Zg (Zdmu rfl) rfl rfl rfl rfl<|X.opP (X.wG rfl rfl rfl) rfl rfl (X.gtr rfl rfl) (fun h20 => ?_) (fun h20 => ?_)
   ·refine Zg (Zdmt rfl) rfl rfl rfl rfl<|Zg (Zdmb rfl) rfl rfl rfl rfl<|X.opP (X.wG rfl rfl rfl) rfl rfl (X.eqI rfl rfl) (fun h23 => ?_) (fun h23 => ?_)
    ·refine Zg (ZdTt rfl rfl) rfl rfl rfl rfl<|Zo (ZdFt rfl rfl) rfl<|Ze<|Zt rfl<|Zr<|Zo (X.buildB (cs := #[]) rfl Zl) rfl<|Zo (X.mkIface Zu226 rfl rfl) rfl<|X.opPanic X.wN rfl<|X.unw_pan Zf157 ?_
     first
     | (rw [← hp, head_none hb1]; exact ⟨rfl, (Ext.andThen (Ext.andThen (Ext.refl (fun k => k = rb) _) hk zq30) hx1 zq30)⟩)
     | (rw [← hp, pNum, if_pos Zz]; exact ⟨rfl, (Ext.andThen (Ext.andThen (Ext.refl (fun k => k = rb) _) hk zq30) hx1 zq30)⟩)
    ·refine Zg (ZdTf rfl rfl) rfl rfl rfl rfl<|Zo (ZdFf rfl rfl) rfl<|Ze<|Zf rfl<|Zk<|Zs<|Zr<|Zomu rfl rfl<|Zomb rfl rfl<|Zo (X.and_ rfl rfl (u8_and x1)) rfl<|Zo (X.cvI Zu5 Zu154 rfl (X.w_u64 Zz)) rfl<|Zomu rfl rfl<|Zo (X.mul rfl rfl (X.w_u64 Zz)) rfl<|Zo (X.shl rfl rfl Zz (shl_7 _ i hi0 (Nat.lt_of_le_of_lt (Nat.le_add_left _ acc) (num_bound x1 hi0 ha Zz).1))) rfl<|Zo (X.or_ rfl rfl (or_7 acc _ i ha (num_bound x1 hi0 ha Zz).1)) rfl<|Zoau rfl rfl<|Ze<|Zs<|Zr<|Zomb rfl rfl<|X.opP X.wN rfl rfl (X.lss rfl rfl) (fun h37 => ?_) (fun h37 => ?_)
     ·refine Ze<|Zt rfl<|Zs<|Zr<|Zomu rfl rfl<|Zoau rfl rfl<|Ze<|X.ret1 (v := (.int .u64 _)) Zf157 Zr157 rfl ?_
      rw [← hp, pNum, if_neg Zz, if_pos Zz]
      exact ⟨_, rfl, ⟨rfl, (num_bound x1 hi0 ha Zz).1⟩, hR1, (Ext.andThen (Ext.andThen (Ext.refl (fun k => k = rb) _) hk zq30) hx1 zq30)⟩
     ·refine Ze<|Zf rfl<|Zk<|Zi<|Zr<|Zomu rfl rfl<|Zo (X.add rfl rfl (X.w_u64 Zz)) rfl<|Zoau rfl rfl<|Ze ?_
      refine hback (i + 1, acc + x1.toNat % 128 * 128 ^ i, ys1) _ _ ⟨rfl, rfl, rfl, trivial⟩ ⟨by have := (num_bound x1 hi0 ha Zz).2.2; simp only []; omega, (num_bound x1 hi0 ha Zz).2.1, hR1, by rw [← hp, pNum, if_neg Zz, if_neg Zz], (Ext.andThen (Ext.andThen (Ext.refl (fun k => k = rb) _) hk zq30) hx1 zq30)⟩ (by simp)
   ·refine Zg (Zdmf rfl) rfl rfl rfl rfl<|Zp rfl rfl rfl<|Zp rfl rfl rfl<|Zg (ZdFf rfl rfl) rfl rfl rfl rfl<|Zo (ZdFf rfl rfl) rfl<|Ze<|Zf rfl<|Zk<|Zs<|Zr<|Zomu rfl rfl<|Zomb rfl rfl<|Zo (X.and_ rfl rfl (u8_and x1)) rfl<|Zo (X.cvI Zu5 Zu154 rfl (X.w_u64 Zz)) rfl<|Zomu rfl rfl<|Zo (X.mul rfl rfl (X.w_u64 Zz)) rfl<|Zo (X.shl rfl rfl Zz (shl_7 _ i hi0 (Nat.lt_of_le_of_lt (Nat.le_add_left _ acc) (num_bound x1 hi0 ha Zz).1))) rfl<|Zo (X.or_ rfl rfl (or_7 acc _ i ha (num_bound x1 hi0 ha Zz).1)) rfl<|Zoau rfl rfl<|Ze<|Zs<|Zr<|Zomb rfl rfl<|X.opP X.wN rfl rfl (X.lss rfl rfl) (fun h37 => ?_) (fun h37 => ?_)
    ·refine Ze<|Zt rfl<|Zs<|Zr<|Zomu rfl rfl<|Zoau rfl rfl<|Ze<|X.ret1 (v := (.int .u64 _)) Zf157 Zr157 rfl ?_
     rw [← hp, pNum, if_neg Zz, if_pos Zz]
     exact ⟨_, rfl, ⟨rfl, (num_bound x1 hi0 ha Zz).1⟩, hR1, (Ext.andThen (Ext.andThen (Ext.refl (fun k => k = rb) _) hk zq30) hx1 zq30)⟩
    ·refine Ze<|Zf rfl<|Zk<|Zi<|Zr<|Zomu rfl rfl<|Zo (X.add rfl rfl (X.w_u64 Zz)) rfl<|Zoau rfl rfl<|Ze ?_
     refine hback (i + 1, acc + x1.toNat % 128 * 128 ^ i, ys1) _ _ ⟨rfl, rfl, rfl, trivial⟩ ⟨by have := (num_bound x1 hi0 ha Zz).2.2; simp only []; omega, (num_bound x1 hi0 ha Zz).2.1, hR1, by rw [← hp, pNum, if_neg Zz, if_neg Zz], (Ext.andThen (Ext.andThen (Ext.refl (fun k => k = rb) _) hk zq30) hx1 zq30)⟩ (by simp)
 ·rintro w1 hx1
  have hx1' := hx1.size
  refine X.unw_pan Zf157 ?_
  first
  | (rw [← hp, head_none hb1]; exact ⟨rfl, (Ext.andThen (Ext.andThen (Ext.refl (fun k => k = rb) _) hk zq30) hx1 zq30)⟩)
  | (rw [← hp, pNum, if_pos Zz]; exact ⟨rfl, (Ext.andThen (Ext.andThen (Ext.refl (fun k => k = rb) _) hk zq30) hx1 zq30)⟩)
def unzig (a : Nat) : Int := if a % 2 = 0 then (a / 2 : Nat) else -((a / 2 : Nat) : Int) - 1
def pInt (xs : List UInt8) : Option (Int × List UInt8) := (pNum 0 0 xs).map fun b => (unzig b.1, b.2)
theorem unzig_ok {a : Nat} (h : a < 18446744073709551616) : okI (unzig a) := by
  unfold unzig okI; split <;> omega
theorem and_1 (a : Nat) (h : a < 18446744073709551616) : IntKind.u64.wrap ((BitVec.ofInt IntKind.u64.bits ((a : Nat) : Int) &&& BitVec.ofInt IntKind.u64.bits 1).toNat : Int) = ((a % 2 : Nat) : Int) := by
  show IntKind.u64.wrap ((BitVec.ofInt 64 ((a : Nat) : Int) &&& 1#64).toNat : Int) = _
  rw [BitVec.ofInt_natCast, BitVec.toNat_and, BitVec.toNat_ofNat, BitVec.toNat_ofNat]
  have : a % 2 ^ 64 &&& 1 % 2 ^ 64 = a % 2 := by
    rw [show (1 : Nat) % 2 ^ 64 = 2 ^ 1 - 1 by decide, Nat.and_two_pow_sub_one_eq_mod]
    omega
  rw [this]; exact w_u64 Zz
theorem shr_1 (a : Nat) : ((a : Nat) : Int).fdiv (2 ^ (min (1 : Int).toNat IntKind.u64.bits)) = ((a / 2 : Nat) : Int) := by
  rw [Int.fdiv_eq_ediv_of_nonneg _ (by decide)]
  rfl
theorem unzig_xor (a : Nat) (h : a < 18446744073709551616) : IntKind.i64.wrap ((BitVec.ofInt IntKind.i64.bits ((a / 2 : Nat) : Int) ^^^ BitVec.ofInt IntKind.i64.bits (0 - ((a % 2 : Nat) : Int))).toNat : Int) = unzig a := by
  show IntKind.i64.wrap ((BitVec.ofInt 64 ((a / 2 : Nat) : Int) ^^^ BitVec.ofInt 64 (0 - ((a % 2 : Nat) : Int))).toNat : Int) = _
  unfold unzig
  rcases Nat.mod_two_eq_zero_or_one a with e | e
  · rw [e, if_pos rfl, show (0 : Int) - ((0 : Nat) : Int) = 0 by rfl, show BitVec.ofInt 64 0 = 0#64 by decide, BitVec.xor_zero, BitVec.ofInt_natCast, BitVec.toNat_ofNat, Nat.mod_eq_of_lt Zz]
    exact w_i64 Zz
  · have key : ∀ y : Nat, y = 18446744073709551615 - a / 2 → IntKind.i64.wrap (y : Int) = -((a / 2 : Nat) : Int) - 1 := by
      intro y hy
      have hs : y + a / 2 = 18446744073709551615 := by rw [hy]; exact Nat.sub_add_cancel Zz
      clear hy
      simp only [IntKind.wrap, IntKind.bits, IntKind.signed, Bool.true_and]
      split <;> simp_all <;> omega
    rw [e, if_neg (by decide), show (0 : Int) - ((1 : Nat) : Int) = -1 by rfl, show BitVec.ofInt 64 (-1) = BitVec.allOnes 64 by decide, BitVec.xor_allOnes]
    refine key _ ?_
    rw [BitVec.toNat_not, BitVec.ofInt_natCast, BitVec.toNat_ofNat, Nat.mod_eq_of_lt Zz]
theorem whole_c (hi rb T : Nat) (xs : List UInt8) (w : World) (hr : Rd w hi rb T xs) : PP 135 #[.pointer (some ⟨rb, 0, none⟩)] w hi rb T (pInt xs) (fun a v _ => v = .int .i64 a ∧ okI a) := by
 have hrl := hr.lt
 refine X.enter Tryz.func135 rfl Tryz.ntmps135 rfl<|Zs<|Zr<|Zoa rfl rfl<|Ze<|Zs<|Zr<|Zom rfl rfl<|X.opPR (num_c hi rb T _ _ hr) X.wN rfl Tryz.call157 rfl (fun b1 hb1 => ?_) (fun hb1 => ?_)
 ·rintro _ w1 ⟨⟨rfl, hn1⟩, hR1, hx1⟩
  have hx1' := hx1.size
  obtain ⟨a1, ys1⟩ := b1
  simp only at hR1 hn1
  refine Zoau rfl rfl<|Ze<|Zs<|Zr<|Zomu rfl rfl<|Zo (X.shr rfl rfl (by decide) (shr_1 a1)) rfl<|Zo (X.cvI Zu154 Zu2 rfl (X.w_i64 Zz)) rfl<|Zomu rfl rfl<|Zo (X.and_ rfl rfl (and_1 a1 hn1)) rfl<|Zo (X.cvI Zu154 Zu2 rfl (X.w_i64 Zz)) rfl<|Zo (X.neg rfl (X.w_i64 Zz)) rfl<|Zo (X.xor_ rfl rfl (unzig_xor a1 hn1)) rfl<|Zoai rfl rfl<|Ze<|X.ret1 (v := (.int .i64 _)) Tryz.func135 Tryz.results135 rfl ?_
  rw [pInt, hb1]
  exact ⟨_, rfl, ⟨rfl, unzig_ok hn1⟩, hR1, (Ext.andThen (Ext.refl (fun k => k = rb) _) hx1 zq30)⟩
 ·rintro w1 hx1
  have hx1' := hx1.size
  refine X.unw_pan Tryz.func135 ?_
  rw [pInt, hb1]
  exact ⟨rfl, (Ext.andThen (Ext.refl (fun k => k = rb) _) hx1 zq30)⟩
theorem Clone_c {lo hi : Nat} {A : Option Addr} {n c : Nat} {l : List UInt8} (w : World) (hs : Sl KB lo hi w A n l) (hn : n ≤ 1000000) : Ret Tryz.prog 74 #[.slice A n c] w fun r w' => FreshB w w' r l := by
 have hl := hs.len
 refine X.enter Zf74 rfl Tryz.ntmps74 rfl<|Zs<|Zr<|Zoa rfl rfl<|Ze<|Zs<|Zs<|Zr<|Zoms rfl rfl<|X.opB X.wN rfl rfl (X.eqNil Zu81 rfl rfl) (fun h4 => ?_) (fun h4 => ?_)
 ·refine Ze<|Zt rfl<|Zs<|Zr<|Zoa rfl rfl<|Ze<|X.ret1 Zf74 Tryz.results74 rfl ?_
  refine ⟨?_, (Keep.refl _)⟩
  rcases Nat.eq_zero_or_pos n with h | h
  ·have hq : l = [] := List.eq_nil_of_length_eq_zero Zz
   subst hq; exact (Mine.nil _ _ _ _ _ _)
  ·obtain ⟨ad, e, _⟩ := hs.at_ h
   subst e; simp at h4
 ·refine Ze<|Zf rfl<|Zk<|Zs<|Zr<|Zc (X.lit0E (K := KB) (S := fun k => w.heap.size ≤ k) Zu81 Zs5 zq34) rfl ?_
  rintro v1 w1 ⟨hM1, hk1, hz1⟩
  refine Zoms rfl rfl<|Zc (X.appE (K := KB) (S := fun k => w.heap.size ≤ k) KB_flat Zu81 E5 rfl rfl hM1 (hs.keep hk1) zq15 zq34) rfl ?_
  rintro v2 w2 ⟨hM2, hx2⟩
  have hx2' := hx2.size
  refine Zoa rfl rfl<|Ze<|X.ret1 Zf74 Tryz.results74 rfl ?_
  exact ⟨hM2, (hk1.step hx2 zq34)⟩
def pText (most : Int) (xs : List UInt8) : Option (List UInt8 × List UInt8) :=
  match pNum 0 0 xs with
  | none => none
  | some (a, ys) => if most < 0 ∨ most < (a : Int) ∨ 1048576 < a ∨ ys.length < a then none else some (ys.take a, ys.drop a)
theorem text_c (most : Int) (hmo : okI most) (hi rb T : Nat) (xs : List UInt8) (w : World) (hr : Rd w hi rb T xs) : PP 126 #[.pointer (some ⟨rb, 0, none⟩), .int .i64 most] w hi rb T (pText most xs) (fun a v w' => Mine KB 5 (fun k => w.heap.size ≤ k) 0 0 w' v a) := by
 have hrl := hr.lt
 unfold okI at hmo
 refine X.enter Zf126 rfl Tryz.ntmps126 rfl<|Zs<|Zr<|Zoa rfl rfl<|Ze<|Zs<|Zr<|Zom rfl rfl<|X.opPR (num_c hi rb T _ _ hr) X.wN rfl Tryz.call157 rfl (fun b1 hb1 => ?_) (fun hb1 => ?_)
 ·rintro _ w1 ⟨⟨rfl, hn1⟩, hR1, hx1⟩
  have hx1' := hx1.size
  obtain ⟨a1, ys1⟩ := b1
  simp only at hR1 hn1
  refine Zoau rfl rfl<|Ze<|Zs<|Zs<|Zr<|Zomi rfl rfl<|X.opP X.wN rfl rfl (X.lss rfl rfl) (fun h9 => ?_) (fun h9 => ?_)
  ·refine Zomt rfl rfl<|Zp rfl rfl rfl<|Zp rfl rfl rfl<|Zp rfl rfl rfl<|Zp rfl rfl rfl<|Zo (ZdTt rfl rfl) rfl<|Zomt rfl rfl<|Zp rfl rfl rfl<|Zp rfl rfl rfl<|Zo (ZdTt rfl rfl) rfl<|Ze<|Zt rfl<|Zr<|Zo (X.buildB (cs := #[]) rfl Zl) rfl<|Zo (X.mkIface Zu226 rfl rfl) rfl<|X.opPanic X.wN rfl<|X.unw_pan Zf126 ?_
   rw [pText, hb1]
   first
   | exact ⟨rfl, (Ext.andThen (Ext.refl (fun k => k = rb) _) hx1 zq30)⟩
   | (dsimp only; rw [if_pos Zz]; exact ⟨rfl, (Ext.andThen (Ext.refl (fun k => k = rb) _) hx1 zq30)⟩)
   | (dsimp only; rw [if_pos]; exact ⟨rfl, (Ext.andThen (Ext.refl (fun k => k = rb) _) hx1 zq30)⟩; by_cases h : (a1 : Int) ≤ (ys1.length : Int); · rw [if_pos h] at hb2; cases hb2
      ·omega)
  ·refine Zomf rfl rfl<|Zg (Zdmu rfl) rfl rfl rfl rfl<|Zg (Zdmi rfl) rfl rfl rfl rfl<|Zg (X.cvI (c := most) Zu3 Zu154 rfl (X.w_u64 Zz)) rfl rfl rfl rfl<|X.opP (X.wG rfl rfl rfl) rfl rfl (X.gtr rfl rfl) (fun h14 => ?_) (fun h14 => ?_)
   ·refine Zo (ZdFt rfl rfl) rfl<|Zomt rfl rfl<|Zp rfl rfl rfl<|Zp rfl rfl rfl<|Zo (ZdTt rfl rfl) rfl<|Ze<|Zt rfl<|Zr<|Zo (X.buildB (cs := #[]) rfl Zl) rfl<|Zo (X.mkIface Zu226 rfl rfl) rfl<|X.opPanic X.wN rfl<|X.unw_pan Zf126 ?_
    rw [pText, hb1]
    first
    | exact ⟨rfl, (Ext.andThen (Ext.refl (fun k => k = rb) _) hx1 zq30)⟩
    | (dsimp only; rw [if_pos Zz]; exact ⟨rfl, (Ext.andThen (Ext.refl (fun k => k = rb) _) hx1 zq30)⟩)
    | (dsimp only; rw [if_pos]; exact ⟨rfl, (Ext.andThen (Ext.refl (fun k => k = rb) _) hx1 zq30)⟩; by_cases h : (a1 : Int) ≤ (ys1.length : Int); · rw [if_pos h] at hb2; cases hb2
       ·omega)
   ·refine Zo (ZdFf rfl rfl) rfl<|Zomf rfl rfl<|Zg (Zdmu rfl) rfl rfl rfl rfl<|X.opP (X.wG rfl rfl rfl) rfl rfl (X.gtr rfl rfl) (fun h18 => ?_) (fun h18 => ?_)
    ·refine Zo (ZdFt rfl rfl) rfl<|Ze<|Zt rfl<|Zr<|Zo (X.buildB (cs := #[]) rfl Zl) rfl<|Zo (X.mkIface Zu226 rfl rfl) rfl<|X.opPanic X.wN rfl<|X.unw_pan Zf126 ?_
     rw [pText, hb1]
     first
     | exact ⟨rfl, (Ext.andThen (Ext.refl (fun k => k = rb) _) hx1 zq30)⟩
     | (dsimp only; rw [if_pos Zz]; exact ⟨rfl, (Ext.andThen (Ext.refl (fun k => k = rb) _) hx1 zq30)⟩)
     | (dsimp only; rw [if_pos]; exact ⟨rfl, (Ext.andThen (Ext.refl (fun k => k = rb) _) hx1 zq30)⟩; by_cases h : (a1 : Int) ≤ (ys1.length : Int); · rw [if_pos h] at hb2; cases hb2
        ·omega)
    ·refine Zo (ZdFf rfl rfl) rfl<|Ze<|Zf rfl<|Zk<|Zs<|Zr<|Zom rfl rfl<|Zomu rfl rfl<|Zo (X.cvI Zu154 Zu3 rfl (X.w_i64 Zz)) rfl<|X.opPR (some_c hi rb T _ _ Zz _ hR1) X.wN rfl Zc161 rfl (fun u2 hb2 => ?_) (fun hb2 => ?_)
     ·rintro _ w2 ⟨⟨A2, c2, rfl, hcc2, hs2⟩, hR2, hx2⟩
      have hx2' := hx2.size
      have hle2 : (a1 : Int) ≤ (ys1.length : Int) := by
        by_cases h : (a1 : Int) ≤ (ys1.length : Int)
        ·exact h
        ·rw [if_neg h] at hb2; cases hb2
      have hrT := hR1.T
      refine Zc (X.callE (Clone_c _ hs2 Zz) Tryz.call74 rfl rfl) rfl ?_
      rintro v3 w3 ⟨hM3, hk3⟩
      have hk3' := hk3.size
      refine Zoa rfl rfl<|Ze<|X.ret1 Zf126 Tryz.results126 rfl ?_
      rw [pText, hb1]
      dsimp only
      rw [if_neg Zz]
      exact ⟨_, rfl, Mine.mono (T := fun k => w.heap.size ≤ k) hM3 (fun k h1 h2 => by (try simp only [] at *); omega), (hR2.keep hk3), (Ext.andThen (Ext.andThen (Ext.andThen (Ext.refl (fun k => k = rb) _) hx1 zq30) hx2 zq30) hk3 zq30)⟩
     ·rintro w2 hx2
      have hx2' := hx2.size
      refine X.unw_pan Zf126 ?_
      rw [pText, hb1]
      first
      | exact ⟨rfl, (Ext.andThen (Ext.andThen (Ext.refl (fun k => k = rb) _) hx1 zq30) hx2 zq30)⟩
      | (dsimp only; rw [if_pos Zz]; exact ⟨rfl, (Ext.andThen (Ext.andThen (Ext.refl (fun k => k = rb) _) hx1 zq30) hx2 zq30)⟩)
      | (dsimp only; rw [if_pos]; exact ⟨rfl, (Ext.andThen (Ext.andThen (Ext.refl (fun k => k = rb) _) hx1 zq30) hx2 zq30)⟩; by_cases h : (a1 : Int) ≤ (ys1.length : Int); · rw [if_pos h] at hb2; cases hb2
         ·omega)
 ·rintro w1 hx1
  have hx1' := hx1.size
  refine X.unw_pan Zf126 ?_
  rw [pText, hb1]
  first
  | exact ⟨rfl, (Ext.andThen (Ext.refl (fun k => k = rb) _) hx1 zq30)⟩
  | (dsimp only; rw [if_pos Zz]; exact ⟨rfl, (Ext.andThen (Ext.refl (fun k => k = rb) _) hx1 zq30)⟩)
  | (dsimp only; rw [if_pos]; exact ⟨rfl, (Ext.andThen (Ext.refl (fun k => k = rb) _) hx1 zq30)⟩; by_cases h : (a1 : Int) ≤ (ys1.length : Int); · rw [if_pos h] at hb2; cases hb2
     ·omega)
def pVal : List UInt8 → Option (VAL × List UInt8)
  | [] => none
  | c :: xs => if c.toNat = 1 then (pInt xs).map fun b => ((1, b.1, ⟨#[]⟩), b.2) else if c.toNat = 2 then (pText 256 xs).map fun b => ((2, 0, ⟨b.1.toArray⟩), b.2) else none
def pVals : Nat → List UInt8 → Option (List VAL × List UInt8)
  | 0, xs => some ([], xs)
  | n + 1, xs => match pVal xs with
    | none => none
    | some (v, ys) => (pVals n ys).map fun b => (v :: b.1, b.2)
def pTup : List UInt8 → Option (List VAL × List UInt8)
  | [] => none
  | c :: xs => if 8 < c.toNat then none else pVals c.toNat xs
def pCnt (xs : List UInt8) : Option ((List VAL × Int) × List UInt8) :=
  match pTup xs with
  | none => none
  | some (l, ys) => (pInt ys).map fun b => ((l, b.1), b.2)
theorem pText_len {most : Int} {xs : List UInt8} {b : List UInt8 × List UInt8} (h : pText most xs = some b) : b.1.length ≤ 1048576 := by
  unfold pText at h
  split at h
  · cases h
  · split at h
    · cases h
    · cases h; simp only [List.length_take]; omega
theorem value_c (hi rb T : Nat) (xs : List UInt8) (w : World) (hr : Rd w hi rb T xs) : PP 169 #[.pointer (some ⟨rb, 0, none⟩)] w hi rb T (pVal xs) (fun a v _ => v = .agg (encV a).toArray ∧ okV a) := by
 have hrl := hr.lt
 have hhr := hr.T
 refine X.enter Zf169 rfl Tryz.ntmps169 rfl<|Zs<|Zr<|Zc (X.allocE Zv88 rfl) rfl ?_
 rintro _ w1 ⟨rfl, hB1, hk1, hz1⟩
 refine Ze<|Zs<|Zs<|Zr<|Zom rfl rfl<|X.opPR (some1_c hi rb T _ _ (hr.keep hk1)) X.wN rfl Zc161 rfl (fun x2 hb2 => ?_) (fun hb2 => ?_)
 ·rintro _ w2 ⟨⟨A2, c2, rfl, hcc2, hs2⟩, hR2, hx2⟩
  have hx2' := hx2.size
  obtain ⟨ys2, rfl⟩ := head_some hb2
  simp only [List.tail_cons] at hR2
  have hu2 := x2.toNat_lt
  refine Zo (X.idxS hs2 Zu81 Zs5 rfl rfl ⟨by omega, by omega⟩) rfl<|Zo (X.loadS Zi5 hs2 (j := 0) rfl rfl (fun _ h => by rw [h.1]; rfl)) rfl ?_
  refine Ze<|Zb<|Zs<|Zr<|X.opP X.wN rfl rfl (X.eqI rfl rfl) (fun h8 => ?_) (fun h8 => ?_)
  ·refine Zoat rfl rfl<|Ze<|Zt rfl<|Zs<|Zr<|Zom rfl rfl<|X.opPR (whole_c hi rb T _ _ hR2) X.wN rfl Tryz.call135 rfl (fun b3 hb3 => ?_) (fun hb3 => ?_)
   ·rintro _ w3 ⟨⟨rfl, hn3⟩, hR3, hx3⟩
    have hx3' := hx3.size
    obtain ⟨a3, ys3⟩ := b3
    simp only at hR3 hn3
    refine Zo (X.buildB (vs := [(0, .int .i64 1), (1, .int .i64 a3)]) (cs := (encV (1, a3, ⟨#[]⟩)).toArray) rfl Zl) rfl<|Zc (X.storeNE Zs88 ((hB1.ext hx2 zq36).ext hx3 zq36) rfl rfl rfl rfl (encV_one _)) rfl ?_
    rintro _ w4 ⟨hB4, hx4, hz4⟩
    refine Ze ?_
    refine X.ret_unw (X.unwR1 Zf169 Tryz.results169 (X.ResOk.cell rfl (X.lvN Zi88 Zs88 hB4 rfl)) ?_)
    rw [pVal, if_pos Zz, hb3]
    exact ⟨_, rfl, ⟨rfl, by simp [okI], hn3, by simp [ByteArray.size]⟩, (hR3.ext hx4 zq36), (Ext.andThen (Ext.andThen (Ext.andThen (Ext.andThen (Ext.refl (fun k => k = rb) _) hk1 zq30) hx2 zq30) hx3 zq30) hx4 zq30)⟩
   ·rintro w3 hx3
    have hx3' := hx3.size
    refine X.unw_pan Zf169 ?_
    first
    | (rw [head_none hb2, pVal]; exact ⟨rfl, (Ext.andThen (Ext.andThen (Ext.andThen (Ext.refl (fun k => k = rb) _) hk1 zq30) hx2 zq30) hx3 zq30)⟩)
    | (rw [pVal, if_pos Zz, hb3]; exact ⟨rfl, (Ext.andThen (Ext.andThen (Ext.andThen (Ext.refl (fun k => k = rb) _) hk1 zq30) hx2 zq30) hx3 zq30)⟩)
    | (rw [pVal, if_neg Zz, if_pos Zz, hb5]; exact ⟨rfl, (Ext.andThen (Ext.andThen (Ext.andThen (Ext.refl (fun k => k = rb) _) hk1 zq30) hx2 zq30) hx3 zq30)⟩)
    | (rw [pVal, if_neg Zz, if_neg Zz]; exact ⟨rfl, (Ext.andThen (Ext.andThen (Ext.andThen (Ext.refl (fun k => k = rb) _) hk1 zq30) hx2 zq30) hx3 zq30)⟩)
  ·refine Zoaf rfl rfl<|Ze<|Zf rfl<|Zs<|Zr<|X.opP X.wN rfl rfl (X.eqI rfl rfl) (fun h13 => ?_) (fun h13 => ?_)
   ·refine Zoat rfl rfl<|Ze<|Zt rfl<|Zs<|Zr<|Zom rfl rfl<|X.opPR (text_c 256 (by simp [okI]) hi rb T _ _ hR2) X.wN rfl Tryz.call126 rfl (fun b5 hb5 => ?_) (fun hb5 => ?_)
    ·rintro v5 w5 ⟨hM5, hR5, hx5⟩
     have hx5' := hx5.size
     have hn5 := pText_len hb5
     obtain ⟨a5, ys5⟩ := b5
     simp only at hR5 hn5 hM5
     have q6 := hM5.slF KB_flat 0 (fun _ _ => Nat.zero_le _)
     obtain ⟨A6, c6, rfl, hc6, hs6⟩ := q6
     refine Zo (X.str Zu81 Zu5 Zu9 rfl KB_is rfl hs6) rfl<|Zo (X.buildB (vs := [(0, .int .i64 2), (2, .string ⟨a5.toArray⟩)]) (cs := (encV (2, 0, ⟨a5.toArray⟩)).toArray) rfl Zl) rfl<|Zc (X.storeNE Zs88 ((hB1.ext hx2 zq36).ext hx5 zq36) rfl rfl rfl rfl (encV_one _)) rfl ?_
     rintro _ w7 ⟨hB7, hx7, hz7⟩
     refine Ze ?_
     refine X.ret_unw (X.unwR1 Zf169 Tryz.results169 (X.ResOk.cell rfl (X.lvN Zi88 Zs88 hB7 rfl)) ?_)
     rw [pVal, if_neg Zz, if_pos Zz, hb5]
     exact ⟨_, rfl, ⟨rfl, by simp [okI], by simp [okI], by show a5.toArray.size ≤ _; simp; omega⟩, (hR5.ext hx7 zq36), (Ext.andThen (Ext.andThen (Ext.andThen (Ext.andThen (Ext.refl (fun k => k = rb) _) hk1 zq30) hx2 zq30) hx5 zq30) hx7 zq30)⟩
    ·rintro w5 hx5
     have hx5' := hx5.size
     refine X.unw_pan Zf169 ?_
     first
     | (rw [head_none hb2, pVal]; exact ⟨rfl, (Ext.andThen (Ext.andThen (Ext.andThen (Ext.refl (fun k => k = rb) _) hk1 zq30) hx2 zq30) hx5 zq30)⟩)
     | (rw [pVal, if_pos Zz, hb3]; exact ⟨rfl, (Ext.andThen (Ext.andThen (Ext.andThen (Ext.refl (fun k => k = rb) _) hk1 zq30) hx2 zq30) hx5 zq30)⟩)
     | (rw [pVal, if_neg Zz, if_pos Zz, hb5]; exact ⟨rfl, (Ext.andThen (Ext.andThen (Ext.andThen (Ext.refl (fun k => k = rb) _) hk1 zq30) hx2 zq30) hx5 zq30)⟩)
     | (rw [pVal, if_neg Zz, if_neg Zz]; exact ⟨rfl, (Ext.andThen (Ext.andThen (Ext.andThen (Ext.refl (fun k => k = rb) _) hk1 zq30) hx2 zq30) hx5 zq30)⟩)
   ·refine Zoaf rfl rfl<|Ze<|Zf rfl<|Zk<|Zi<|Zr<|Zo (X.buildB (cs := #[]) rfl Zl) rfl<|Zo (X.mkIface Zu226 rfl rfl) rfl<|X.opPanic X.wN rfl<|X.unw_pan Zf169 ?_
    first
    | (rw [head_none hb2, pVal]; exact ⟨rfl, (Ext.andThen (Ext.andThen (Ext.refl (fun k => k = rb) _) hk1 zq30) hx2 zq30)⟩)
    | (rw [pVal, if_pos Zz, hb3]; exact ⟨rfl, (Ext.andThen (Ext.andThen (Ext.refl (fun k => k = rb) _) hk1 zq30) hx2 zq30)⟩)
    | (rw [pVal, if_neg Zz, if_pos Zz, hb5]; exact ⟨rfl, (Ext.andThen (Ext.andThen (Ext.refl (fun k => k = rb) _) hk1 zq30) hx2 zq30)⟩)
    | (rw [pVal, if_neg Zz, if_neg Zz]; exact ⟨rfl, (Ext.andThen (Ext.andThen (Ext.refl (fun k => k = rb) _) hk1 zq30) hx2 zq30)⟩)
 ·rintro w2 hx2
  have hx2' := hx2.size
  refine X.unw_pan Zf169 ?_
  first
  | (rw [head_none hb2, pVal]; exact ⟨rfl, (Ext.andThen (Ext.andThen (Ext.refl (fun k => k = rb) _) hk1 zq30) hx2 zq30)⟩)
  | (rw [pVal, if_pos Zz, hb3]; exact ⟨rfl, (Ext.andThen (Ext.andThen (Ext.refl (fun k => k = rb) _) hk1 zq30) hx2 zq30)⟩)
  | (rw [pVal, if_neg Zz, if_pos Zz, hb5]; exact ⟨rfl, (Ext.andThen (Ext.andThen (Ext.refl (fun k => k = rb) _) hk1 zq30) hx2 zq30)⟩)
  | (rw [pVal, if_neg Zz, if_neg Zz]; exact ⟨rfl, (Ext.andThen (Ext.andThen (Ext.refl (fun k => k = rb) _) hk1 zq30) hx2 zq30)⟩)
theorem litV_ok {K : World} {x : VAL} (h : okV x) : RepsV KV K [x] [.agg (encV x).toArray] := ⟨⟨encV x, rfl, rfl, h⟩, trivial⟩
theorem tuple_c (hi rb T : Nat) (xs : List UInt8) (w : World) (hr : Rd w hi rb T xs) : PP 134 #[.pointer (some ⟨rb, 0, none⟩)] w hi rb T (pTup xs) (fun a v w' => Mine KV 88 (fun k => w.heap.size ≤ k) 0 0 w' v a ∧ (∀ u ∈ a, okV u) ∧ a.length ≤ 8) := by
 have hrl := hr.lt
 have hhr := hr.T
 refine X.enter Zf134 rfl Tryz.ntmps134 rfl<|Zs<|Zr<|Zoa rfl rfl<|Ze<|Zs<|Zr<|Zom rfl rfl<|X.opPR (some1_c hi rb T _ _ hr) X.wN rfl Zc161 rfl (fun x1 hb1 => ?_) (fun hb1 => ?_)
 ·rintro _ w1 ⟨⟨A1, c1, rfl, hcc1, hs1⟩, hR1, hx1⟩
  have hx1' := hx1.size
  obtain ⟨ys1, rfl⟩ := head_some hb1
  simp only [List.tail_cons] at hR1
  have hu1 := x1.toNat_lt
  refine Zo (X.idxS hs1 Zu81 Zs5 rfl rfl ⟨by omega, by omega⟩) rfl<|Zo (X.loadS Zi5 hs1 (j := 0) rfl rfl (fun _ h => by rw [h.1]; rfl)) rfl ?_
  refine Zo (X.cvI Zu5 Zu3 rfl (X.w_i64 Zz)) rfl<|Zoai rfl rfl<|Ze<|Zs<|Zs<|Zr<|Zomi rfl rfl<|X.opP X.wN rfl rfl (X.gtr rfl rfl) (fun h11 => ?_) (fun h11 => ?_)
  ·refine Ze<|Zt rfl<|Zr<|Zo (X.buildB (cs := #[]) rfl Zl) rfl<|Zo (X.mkIface Zu226 rfl rfl) rfl<|X.opPanic X.wN rfl<|X.unw_pan Zf134 ?_
   first
   | (rw [head_none hb1, pTup]; exact ⟨rfl, (Ext.andThen (Ext.refl (fun k => k = rb) _) hx1 zq30)⟩)
   | (rw [pTup, if_pos Zz]; exact ⟨rfl, (Ext.andThen (Ext.refl (fun k => k = rb) _) hx1 zq30)⟩)
   | (rw [pTup, if_neg Zz, ← hp, hb2]; exact ⟨rfl, (Ext.andThen (Ext.refl (fun k => k = rb) _) hx1 zq30)⟩)
  ·refine Ze<|Zf rfl<|Zk<|Zs<|Zr<|Zoa rfl rfl<|Ze<|Zs<|Zs<|Zr<|Zomi rfl rfl<|Zom rfl rfl<|Ze<|Zb<|X.loopL (σ := Nat × Value × List VAL × List UInt8) (fun s => [(0, .pointer (some ⟨rb, 0, none⟩)), (4, s.2.1), (14, .int .i64 (x1.toNat : Int)), (15, .int .i64 (s.1 : Int))]) (fun s w' => s.1 ≤ x1.toNat ∧ s.2.2.1.length = s.1 ∧ (∀ u ∈ s.2.2.1, okV u) ∧ Mine KV 88 (fun k => w.heap.size ≤ k) 0 0 w' s.2.1 s.2.2.1 ∧ Rd w' hi rb T s.2.2.2 ∧ (pVals (x1.toNat - s.1) s.2.2.2).map (fun b => (s.2.2.1 ++ b.1, b.2)) = pVals x1.toNat ys1 ∧ Ext (fun k => k = rb) w w') (fun s => x1.toNat - s.1) (0, _, [], ys1) ⟨rfl, rfl, rfl, rfl, trivial⟩ ⟨Nat.zero_le _, rfl, by simp, (Mine.nil _ _ _ _ _ _), hR1, by simp, (Ext.andThen (Ext.refl (fun k => k = rb) _) hx1 zq30)⟩ ?_
   rintro ⟨i, v, l, ys⟩ b wl ⟨hi0, hll, hlo, hM, hR, hp, hk⟩ hback
   simp only at hi0 hll hlo hM hR hp
   have hk' := hk.size
   have hrl2 := hR.lt
   refine Zs<|Zr<|X.opP X.wN rfl rfl (X.lss rfl rfl) (fun h16 => ?_) (fun h16 => ?_)
   ·rw [show x1.toNat - i = (x1.toNat - (i + 1)) + 1 by omega, pVals] at hp
    refine Ze<|Zs<|Zt rfl<|Zk<|Zs<|Zb<|Zr<|Zom rfl rfl<|Zom rfl rfl<|X.opPR (value_c hi rb T _ _ hR) X.wN rfl Tryz.call169 rfl (fun b2 hb2 => ?_) (fun hb2 => ?_)
    ·rintro _ w2 ⟨⟨rfl, hn2⟩, hR2, hx2⟩
     have hx2' := hx2.size
     obtain ⟨a2, ys2⟩ := b2
     simp only at hR2 hn2
     refine Zc (X.litKE (K := KV) (xs := [Operand.tmp 19]) (vs := [.agg (encV a2).toArray]) (ys := [a2]) Zu90 Zs88 Zv88 rfl rfl rfl rfl rfl (litV_ok hn2)) rfl ?_
     rintro _ w3 ⟨rfl, hs3, hB3, hk3, hz3⟩
     refine Zc (X.appE (K := KV) (S := fun k => w.heap.size ≤ k) KV_flat Zu90 EV rfl rfl ((hM.ext hx2 zq36 zq36).keep hk3) hs3 zq15 zq34) rfl ?_
     rintro v4 w4 ⟨hM4, hx4⟩
     have hx4' := hx4.size
     refine Zoa rfl rfl<|Ze<|Zi<|Zr<|Zo (X.add rfl rfl (X.w_i64 Zz)) rfl<|Zomi rfl rfl<|Ze ?_
     refine hback (i + 1, _, l ++ [a2], ys2) _ _ ⟨rfl, rfl, rfl, rfl, trivial⟩ ⟨by simp only []; omega, by simp only [List.length_append, List.length_cons, List.length_nil]; omega, by intro u hu; simp only [List.mem_append, List.mem_singleton] at hu; rcases hu with hu | rfl; exact hlo u hu; exact hn2, hM4, ((hR2.keep hk3).ext hx4 zq36), by rw [hb2] at hp; dsimp only at hp; rw [← hp, Option.map_map]; congr 1; funext b; simp, (Ext.andThen (Ext.andThen (Ext.andThen (Ext.andThen (Ext.refl (fun k => k = rb) _) hk zq30) hx2 zq30) hk3 zq30) hx4 zq30)⟩ (by simp only []; omega)
    ·rintro w2 hx2
     have hx2' := hx2.size
     refine X.unw_pan Zf134 ?_
     first
     | (rw [head_none hb1, pTup]; exact ⟨rfl, (Ext.andThen (Ext.andThen (Ext.refl (fun k => k = rb) _) hk zq30) hx2 zq30)⟩)
     | (rw [pTup, if_pos Zz]; exact ⟨rfl, (Ext.andThen (Ext.andThen (Ext.refl (fun k => k = rb) _) hk zq30) hx2 zq30)⟩)
     | (rw [pTup, if_neg Zz, ← hp, hb2]; exact ⟨rfl, (Ext.andThen (Ext.andThen (Ext.refl (fun k => k = rb) _) hk zq30) hx2 zq30)⟩)
   ·refine Ze<|Zs<|Zf rfl<|Zx rfl<|Zs<|Zr<|Zom rfl rfl<|Zoa rfl rfl<|Ze<|X.ret1 Zf134 Tryz.results134 rfl ?_
    rw [pTup, if_neg Zz, ← hp, show x1.toNat - i = 0 by omega, pVals]
    exact ⟨_, rfl, ⟨by show Mine _ _ _ _ _ _ _ (l ++ []); rw [List.append_nil]; exact hM, by simpa using hlo, by simp; omega⟩, hR, (Ext.andThen (Ext.refl (fun k => k = rb) _) hk zq30)⟩
 ·rintro w1 hx1
  have hx1' := hx1.size
  refine X.unw_pan Zf134 ?_
  first
  | (rw [head_none hb1, pTup]; exact ⟨rfl, (Ext.andThen (Ext.refl (fun k => k = rb) _) hx1 zq30)⟩)
  | (rw [pTup, if_pos Zz]; exact ⟨rfl, (Ext.andThen (Ext.refl (fun k => k = rb) _) hx1 zq30)⟩)
  | (rw [pTup, if_neg Zz, ← hp, hb2]; exact ⟨rfl, (Ext.andThen (Ext.refl (fun k => k = rb) _) hx1 zq30)⟩)
def pSym : List UInt8 → Option (List UInt8 × List UInt8)
  | [] => none
  | c :: xs => if c.toNat = 0 then match xs with
      | [] => none
      | d :: ys => if d.toNat = 1 then some ([], ys) else if d.toNat = 255 then (pSym ys).map fun b => (c :: b.1, b.2) else none
    else (pSym xs).map fun b => (c :: b.1, b.2)
theorem pSym_0 {c : UInt8} {xs : List UInt8} (h : c.toNat = 0) : pSym (c :: xs) = match xs with
      | [] => none
      | d :: ys => if d.toNat = 1 then some ([], ys) else if d.toNat = 255 then (pSym ys).map fun b => (c :: b.1, b.2) else none := by
  conv => lhs; rw [pSym.eq_def]
  exact if_pos h
theorem pSym_1 {c : UInt8} {xs : List UInt8} (h : ¬ c.toNat = 0) : pSym (c :: xs) = (pSym xs).map fun b => (c :: b.1, b.2) := by
  conv => lhs; rw [pSym.eq_def]
  exact if_neg h
theorem map_map_cons (o : Option (List UInt8 × List UInt8)) (s : List UInt8) (c : UInt8) : (o.map fun b => (s ++ [c] ++ b.1, b.2)) = ((o.map fun b => (c :: b.1, b.2)).map fun b => (s ++ b.1, b.2)) := by
  rw [Option.map_map]; congr 1; funext b; simp
theorem symbol_c (hi rb T : Nat) (xs : List UInt8) (w : World) (hr : Rd w hi rb T xs) : PP 163 #[.pointer (some ⟨rb, 0, none⟩)] w hi rb T (pSym xs) (fun a v _ => v = .string ⟨a.toArray⟩ ∧ a.length ≤ 1000000) := by
 have hrl := hr.lt
 have hhr := hr.T
 refine X.enter Zf163 rfl Tryz.ntmps163 rfl<|Zs<|Zr<|Zoa rfl rfl<|Ze<|Zs<|Zr<|Zoa rfl rfl<|Ze<|Zb<|X.loopL (σ := Value × List UInt8 × List UInt8) (fun s => [(0, .pointer (some ⟨rb, 0, none⟩)), (3, s.1)]) (fun s w' => s.2.1.length + s.2.2.length ≤ T ∧ Mine KB 5 (fun k => w.heap.size ≤ k) 0 0 w' s.1 s.2.1 ∧ Rd w' hi rb T s.2.2 ∧ ((pSym s.2.2).map fun b => (s.2.1 ++ b.1, b.2)) = pSym xs ∧ Ext (fun k => k = rb) w w') (fun s => s.2.2.length) (_, [], xs) ⟨rfl, rfl, trivial⟩ ⟨by simp; omega, (Mine.nil _ _ _ _ _ _), hr, by simp, (Ext.refl (fun k => k = rb) _)⟩ ?_
 rintro ⟨v, s, l⟩ b wl ⟨hll, hM, hR, hp, hk⟩ hback
 simp only at hll hM hR hp
 have hk' := hk.size
 have hrl2 := hR.lt
 refine Zb<|Zs<|Zr<|Zom rfl rfl<|X.opPR (some1_c hi rb T _ _ hR) X.wN rfl Zc161 rfl (fun x1 hb1 => ?_) (fun hb1 => ?_)
 ·rintro _ w1 ⟨⟨A1, c1, rfl, hcc1, hs1⟩, hR1, hx1⟩
  have hx1' := hx1.size
  obtain ⟨ys1, rfl⟩ := head_some hb1
  simp only [List.tail_cons] at hR1
  have hu1 := x1.toNat_lt
  refine Zo (X.idxS hs1 Zu81 Zs5 rfl rfl ⟨by omega, by omega⟩) rfl<|Zo (X.loadS Zi5 hs1 (j := 0) rfl rfl (fun _ h => by rw [h.1]; rfl)) rfl ?_
  refine Zoab rfl rfl<|Ze<|Zs<|Zs<|Zr<|Zomb rfl rfl<|X.opP X.wN rfl rfl (X.eqI rfl rfl) (fun h10 => ?_) (fun h10 => ?_)
  ·refine Ze<|Zt rfl<|Zs<|Zr<|Zom rfl rfl<|X.opPR (some1_c hi rb T _ _ hR1) X.wN rfl Zc161 rfl (fun x2 hb2 => ?_) (fun hb2 => ?_)
   ·rintro _ w2 ⟨⟨A2, c2, rfl, hcc2, hs2⟩, hR2, hx2⟩
    have hx2' := hx2.size
    obtain ⟨ys2, rfl⟩ := head_some hb2
    simp only [List.tail_cons] at hR2
    have hu2 := x2.toNat_lt
    refine Zo (X.idxS hs2 Zu81 Zs5 rfl rfl ⟨by omega, by omega⟩) rfl<|Zo (X.loadS Zi5 hs2 (j := 0) rfl rfl (fun _ h => by rw [h.1]; rfl)) rfl ?_
    refine Ze<|Zb<|Zs<|Zr<|X.opP X.wN rfl rfl (X.eqI rfl rfl) (fun h18 => ?_) (fun h18 => ?_)
    ·refine Zoat rfl rfl<|Ze<|Zt rfl<|Zs<|Zr<|Zom rfl rfl ?_
     have q3 := ((hM.ext hx1 zq36 zq36).ext hx2 zq36 zq36).slF KB_flat 0 (fun _ _ => Nat.zero_le _)
     obtain ⟨A3, c3, rfl, hc3, hs3⟩ := q3
     refine Zo (X.str Zu81 Zu5 Zu9 rfl KB_is rfl hs3) rfl<|Zoag rfl rfl<|Ze<|X.ret1 (v := (.string _)) Zf163 Tryz.results163 rfl ?_
     rw [← hp, pSym_0 Zz]
     dsimp only
     rw [if_pos Zz]
     simp only [List.length_cons] at hll
     exact ⟨_, rfl, ⟨by dsimp only; rw [List.append_nil], by dsimp only; rw [List.append_nil]; omega⟩, hR2, (Ext.andThen (Ext.andThen (Ext.andThen (Ext.refl (fun k => k = rb) _) hk zq30) hx1 zq30) hx2 zq30)⟩
    ·refine Zoaf rfl rfl<|Ze<|Zf rfl<|Zs<|Zr<|X.opP X.wN rfl rfl (X.eqI rfl rfl) (fun h22 => ?_) (fun h22 => ?_)
     ·refine Zoat rfl rfl<|Ze<|Zt rfl<|Zk<|Zi<|Zr<|Zom rfl rfl<|Zomb rfl rfl<|Zc (X.lit1B Zu81 Zs5 Zv5 rfl) rfl ?_
      rintro _ w4 ⟨rfl, hs4, hB4, hk4, hz4⟩
      refine Zc (X.appE (K := KB) (S := fun k => w.heap.size ≤ k) KB_flat Zu81 E5 rfl rfl (((hM.ext hx1 zq36 zq36).ext hx2 zq36 zq36).keep hk4) hs4 zq15 zq34) rfl ?_
      rintro v5 w5 ⟨hM5, hx5⟩
      have hx5' := hx5.size
      refine Zoa rfl rfl<|Ze<|Zi ?_
      refine hback (_, s ++ [x1], ys2) _ _ ⟨rfl, rfl, trivial⟩ ⟨by simp only [List.length_append, List.length_cons, List.length_nil] at *; omega, hM5, ((hR2.keep hk4).ext hx5 zq36), by rw [← hp, pSym_0 Zz]; dsimp only; rw [if_neg Zz, if_pos Zz, map_map_cons], (Ext.andThen (Ext.andThen (Ext.andThen (Ext.andThen (Ext.andThen (Ext.refl (fun k => k = rb) _) hk zq30) hx1 zq30) hx2 zq30) hk4 zq30) hx5 zq30)⟩ (by simp only [List.length_cons]; omega)
     ·refine Zoaf rfl rfl<|Ze<|Zf rfl<|Zr<|Zo (X.buildB (cs := #[]) rfl Zl) rfl<|Zo (X.mkIface Zu226 rfl rfl) rfl<|X.opPanic X.wN rfl<|X.unw_pan Zf163 ?_
      first
      | (rw [← hp, head_none hb1]; exact ⟨rfl, (Ext.andThen (Ext.andThen (Ext.andThen (Ext.refl (fun k => k = rb) _) hk zq30) hx1 zq30) hx2 zq30)⟩)
      | (rw [← hp, pSym_0 Zz, head_none hb2]; exact ⟨rfl, (Ext.andThen (Ext.andThen (Ext.andThen (Ext.refl (fun k => k = rb) _) hk zq30) hx1 zq30) hx2 zq30)⟩)
      | (rw [← hp, pSym_0 Zz]; dsimp only; rw [if_neg Zz, if_neg Zz]; exact ⟨rfl, (Ext.andThen (Ext.andThen (Ext.andThen (Ext.refl (fun k => k = rb) _) hk zq30) hx1 zq30) hx2 zq30)⟩)
   ·rintro w2 hx2
    have hx2' := hx2.size
    refine X.unw_pan Zf163 ?_
    first
    | (rw [← hp, head_none hb1]; exact ⟨rfl, (Ext.andThen (Ext.andThen (Ext.andThen (Ext.refl (fun k => k = rb) _) hk zq30) hx1 zq30) hx2 zq30)⟩)
    | (rw [← hp, pSym_0 Zz, head_none hb2]; exact ⟨rfl, (Ext.andThen (Ext.andThen (Ext.andThen (Ext.refl (fun k => k = rb) _) hk zq30) hx1 zq30) hx2 zq30)⟩)
    | (rw [← hp, pSym_0 Zz]; dsimp only; rw [if_neg Zz, if_neg Zz]; exact ⟨rfl, (Ext.andThen (Ext.andThen (Ext.andThen (Ext.refl (fun k => k = rb) _) hk zq30) hx1 zq30) hx2 zq30)⟩)
  ·refine Ze<|Zf rfl<|Zk<|Zr<|Zom rfl rfl<|Zomb rfl rfl<|Zc (X.lit1B Zu81 Zs5 Zv5 rfl) rfl ?_
   rintro _ w6 ⟨rfl, hs6, hB6, hk6, hz6⟩
   refine Zc (X.appE (K := KB) (S := fun k => w.heap.size ≤ k) KB_flat Zu81 E5 rfl rfl ((hM.ext hx1 zq36 zq36).keep hk6) hs6 zq15 zq34) rfl ?_
   rintro v7 w7 ⟨hM7, hx7⟩
   have hx7' := hx7.size
   refine Zoa rfl rfl<|Ze<|Zi ?_
   refine hback (_, s ++ [x1], ys1) _ _ ⟨rfl, rfl, trivial⟩ ⟨by simp only [List.length_append, List.length_cons, List.length_nil] at *; omega, hM7, ((hR1.keep hk6).ext hx7 zq36), by rw [← hp, pSym_1 Zz, map_map_cons], (Ext.andThen (Ext.andThen (Ext.andThen (Ext.andThen (Ext.refl (fun k => k = rb) _) hk zq30) hx1 zq30) hk6 zq30) hx7 zq30)⟩ (by simp only [List.length_cons]; omega)
 ·rintro w1 hx1
  have hx1' := hx1.size
  refine X.unw_pan Zf163 ?_
  first
  | (rw [← hp, head_none hb1]; exact ⟨rfl, (Ext.andThen (Ext.andThen (Ext.refl (fun k => k = rb) _) hk zq30) hx1 zq30)⟩)
  | (rw [← hp, pSym_0 Zz, head_none hb2]; exact ⟨rfl, (Ext.andThen (Ext.andThen (Ext.refl (fun k => k = rb) _) hk zq30) hx1 zq30)⟩)
  | (rw [← hp, pSym_0 Zz]; dsimp only; rw [if_neg Zz, if_neg Zz]; exact ⟨rfl, (Ext.andThen (Ext.andThen (Ext.refl (fun k => k = rb) _) hk zq30) hx1 zq30)⟩)
theorem some8_c (hi rb T : Nat) (xs : List UInt8) (w : World) (hr : Rd w hi rb T xs) :
    PRet Tryz.prog 161 #[.pointer (some ⟨rb, 0, none⟩), .int .i64 8] w FAULT (if 8 ≤ xs.length then some () else none)
      (fun _ v w' => (∃ A c, v = .slice A 8 c ∧ 8 ≤ c ∧ Sl KB 0 hi w' A 8 (xs.take 8)) ∧ Rd w' hi rb T (xs.drop 8) ∧ Ext (fun k => k = rb) w w') (fun w' => Ext (fun k => k = rb) w w') := by
  refine (some_c hi rb T xs 8 (by decide) w hr).mono fun o w' h => ?_
  by_cases h8 : 8 ≤ xs.length
  · rw [if_pos Zz] at h
    rw [if_pos h8]
    exact h
  · rw [if_neg Zz] at h
    rw [if_neg h8]
    exact h
def beN (l : List UInt8) : Nat := l.foldl (fun x c => x * 256 + c.toNat) 0
theorem beN_step {l : List UInt8} {j : Nat} {y : UInt8} (hy : l[j]? = some y) : beN (l.take (j + 1)) = beN (l.take j) * 256 + y.toNat := by
  rw [List.take_add_one, hy, beN, List.foldl_append]; rfl
theorem beN_lt : ∀ l : List UInt8, beN l < 256 ^ l.length := by
  intro l
  have key : ∀ (l : List UInt8) (x : Nat), l.foldl (fun x c => x * 256 + c.toNat) x < (x + 1) * 256 ^ l.length := by
    intro l
    induction l with
    | nil => intro x; simp
    | cons c l ih =>
      intro x
      have := ih (x * 256 + c.toNat)
      have hc := c.toNat_lt
      rw [List.foldl_cons, List.length_cons, Nat.pow_succ]
      refine Nat.lt_of_lt_of_le this ?_
      rw [Nat.mul_comm (256 ^ l.length) 256, ← Nat.mul_assoc]
      exact Nat.mul_le_mul_right _ Zz
  simpa [beN] using key l 0
theorem be_bound {l : List UInt8} {j : Nat} (hj : j ≤ 7) : beN (l.take j) < 72057594037927936 := by
  refine Nat.lt_of_lt_of_le (beN_lt (l.take j)) ?_
  have : 256 ^ (l.take j).length ≤ 256 ^ 7 := Nat.pow_le_pow_right (by decide) (by rw [List.length_take]; omega)
  exact Nat.le_trans this (by decide)
theorem be_8 {l : List UInt8} : beN (l.take 8) < 18446744073709551616 := by
  refine Nat.lt_of_lt_of_le (beN_lt (l.take 8)) ?_
  have : 256 ^ (l.take 8).length ≤ 256 ^ 8 := Nat.pow_le_pow_right (by decide) (by rw [List.length_take]; omega)
  exact Nat.le_trans this (by decide)
theorem shl_8 (x : Nat) (h : x < 72057594037927936) : IntKind.u64.wrap (((x : Nat) : Int) * 2 ^ (min (8 : Int).toNat IntKind.u64.bits)) = ((x * 256 : Nat) : Int) := by
  have e : ((x : Nat) : Int) * 2 ^ (min (8 : Int).toNat IntKind.u64.bits) = ((x * 256 : Nat) : Int) := by
    have : (2 : Int) ^ (min (8 : Int).toNat IntKind.u64.bits) = 256 := by decide
    rw [this]; omega
  rw [e]
  exact w_u64 Zz
theorem or_8 (x c : Nat) (hc : c < 256) (h : x < 72057594037927936) : IntKind.u64.wrap ((BitVec.ofInt IntKind.u64.bits ((x * 256 : Nat) : Int) ||| BitVec.ofInt IntKind.u64.bits ((c : Nat) : Int)).toNat : Int) = ((x * 256 + c : Nat) : Int) := by
  show IntKind.u64.wrap ((BitVec.ofInt 64 ((x * 256 : Nat) : Int) ||| BitVec.ofInt 64 ((c : Nat) : Int)).toNat : Int) = _
  have e : x * 256 ||| c = x * 256 + c := by
    rw [Nat.mul_comm, show (256 : Nat) = 2 ^ 8 by decide, ← Nat.two_pow_add_eq_or_of_lt Zz]
  rw [BitVec.ofInt_natCast, BitVec.ofInt_natCast, BitVec.toNat_or, BitVec.toNat_ofNat, BitVec.toNat_ofNat, Nat.mod_eq_of_lt Zz, Nat.mod_eq_of_lt Zz, e]
  exact w_u64 Zz
theorem xor_K (x : Nat) (h : x < 18446744073709551616) : IntKind.u64.wrap ((BitVec.ofInt IntKind.u64.bits ((x : Nat) : Int) ^^^ BitVec.ofInt IntKind.u64.bits 9223372036854775808).toNat : Int) = (((x + 9223372036854775808) % 18446744073709551616 : Nat) : Int) := by
  show IntKind.u64.wrap ((BitVec.ofInt 64 ((x : Nat) : Int) ^^^ 9223372036854775808#64).toNat : Int) = _
  rw [BitVec.ofInt_natCast, BitVec.toNat_xor, BitVec.toNat_ofNat, BitVec.toNat_ofNat, Nat.mod_eq_of_lt Zz, Nat.mod_eq_of_lt (a := 9223372036854775808) (by decide), xor63 _ h]
  exact w_u64 Zz
theorem i64_K (x : Nat) (h : x < 18446744073709551616) : IntKind.i64.wrap (((x + 9223372036854775808) % 18446744073709551616 : Nat) : Int) = (x : Int) - 9223372036854775808 := by
  simp only [IntKind.wrap, IntKind.bits, IntKind.signed, Bool.true_and]
  split <;> simp_all <;> omega
def pKey : List UInt8 → Option (VAL × List UInt8)
  | [] => none
  | c :: xs => if c.toNat = 1 then (if 8 ≤ xs.length then some ((1, (beN (xs.take 8) : Int) - 9223372036854775808, ⟨#[]⟩), xs.drop 8) else none) else if c.toNat = 2 then (pSym xs).map fun b => ((2, 0, ⟨b.1.toArray⟩), b.2) else none
theorem keyI_ok (l : List UInt8) : okI ((beN (l.take 8) : Int) - 9223372036854775808) := by
  have := be_8 (l := l)
  unfold okI; omega
theorem keyed_c (hi rb T : Nat) (xs : List UInt8) (w : World) (hr : Rd w hi rb T xs) : PP 129 #[.pointer (some ⟨rb, 0, none⟩)] w hi rb T (pKey xs) (fun a v _ => v = .agg (encV a).toArray ∧ okV a) := by
 have hrl := hr.lt
 have hhr := hr.T
 refine X.enter Zf129 rfl Tryz.ntmps129 rfl<|Zs<|Zr<|Zc (X.allocE Zv88 rfl) rfl ?_
 rintro _ w1 ⟨rfl, hB1, hk1, hz1⟩
 refine Ze<|Zs<|Zr<|Zom rfl rfl<|X.opPR (some1_c hi rb T _ _ (hr.keep hk1)) X.wN rfl Zc161 rfl (fun x2 hb2 => ?_) (fun hb2 => ?_)
 ·rintro _ w2 ⟨⟨A2, c2, rfl, hcc2, hs2⟩, hR2, hx2⟩
  have hx2' := hx2.size
  obtain ⟨ys2, rfl⟩ := head_some hb2
  simp only [List.tail_cons] at hR2
  have hu2 := x2.toNat_lt
  refine Zo (X.idxS hs2 Zu81 Zs5 rfl rfl ⟨by omega, by omega⟩) rfl<|Zo (X.loadS Zi5 hs2 (j := 0) rfl rfl (fun _ h => by rw [h.1]; rfl)) rfl ?_
  refine Ze<|Zb<|Zs<|Zr<|X.opP X.wN rfl rfl (X.eqI rfl rfl) (fun h13 => ?_) (fun h13 => ?_)
  ·refine Zoat rfl rfl<|Ze<|Zt rfl<|Zs<|Zr<|Zoa rfl rfl<|Ze<|Zs<|Zs<|Zr<|Zom rfl rfl<|X.opPR (some8_c hi rb T _ _ hR2) X.wN rfl Zc161 rfl (fun u3 hb3 => ?_) (fun hb3 => ?_)
   ·rintro _ w3 ⟨⟨A3, c3, rfl, hcc3, hs3⟩, hR3, hx3⟩
    have hx3' := hx3.size
    have h8 : 8 ≤ ys2.length := by
      by_cases h : 8 ≤ ys2.length
      ·exact h
      ·rw [if_neg h] at hb3; cases hb3
    refine Zo (X.lenSl Zu81 rfl) rfl<|Zom rfl rfl<|Ze<|Zb<|X.loopL (σ := Nat) (fun s => [(2, .pointer (some ⟨w.heap.size, 0, none⟩)), (3, .int .u64 ((beN ((ys2.take 8).take s) : Nat) : Int)), (15, .slice A3 8 c3), (16, .int .i64 8), (17, .int .i64 (s : Int))]) (fun s w' => s ≤ 8 ∧ w3 = w') (fun s => 8 - s) 0 ⟨rfl, rfl, rfl, rfl, rfl, trivial⟩ ⟨by simp, rfl⟩ ?_
    rintro j b _ ⟨hj, rfl⟩ hback
    refine Zs<|Zr<|X.opP X.wN rfl rfl (X.lss rfl rfl) (fun h18 => ?_) (fun h18 => ?_)
    ·obtain ⟨y, hy⟩ := getN j hs3.len h18
     have hbd := be_bound (l := ys2.take 8) (j := j) Zz
     have huy := y.toNat_lt
     refine Ze<|Zs<|Zt rfl<|Zk<|Zs<|Zb<|Zs<|Zr<|Zo (X.idxS hs3 Zu81 Zs5 rfl rfl ⟨by omega, by omega⟩) rfl<|Zo (X.loadS Zi5 hs3 hy rfl (fun _ h => by rw [h.1]; rfl)) rfl ?_
     refine Zoab rfl rfl<|Ze<|Zr<|Zomu rfl rfl<|Zo (X.shl rfl rfl (by decide) (shl_8 _ hbd)) rfl<|Zomb rfl rfl<|Zo (X.cvI Zu5 Zu154 rfl (X.w_u64 Zz)) rfl<|Zo (X.or_ (c := ((beN ((ys2.take 8).take (j + 1)) : Nat) : Int)) rfl rfl (by rw [beN_step hy]; exact or_8 _ _ huy hbd)) rfl ?_
     refine Zoau rfl rfl<|Ze<|Zi<|Zr<|Zo (X.add rfl rfl (X.w_i64 Zz)) rfl<|Zomi rfl rfl<|Ze ?_
     refine hback (j + 1) _ _ ⟨rfl, rfl, rfl, rfl, rfl, trivial⟩ ⟨by omega, rfl⟩ Zz
    ·have hj8 : j = 8 := by omega
     subst hj8
     have hb8 := be_8 (l := ys2.take 8)
     rw [List.take_take] at hb8
     refine Ze<|Zs<|Zf rfl<|Zx rfl<|Zs<|Zr<|Zomu rfl rfl<|Zo (X.xor_ rfl rfl (xor_K _ (be_8 (l := ys2.take 8)))) rfl<|Zo (X.cvI (c := (beN (ys2.take 8) : Int) - 9223372036854775808) Zu154 Zu2 rfl (by have e := i64_K _ (be_8 (l := ys2.take 8)); rw [e, List.take_take]; rfl)) rfl ?_
     refine Zo (X.buildB (vs := [(0, .int .i64 1), (1, .int .i64 ((beN (ys2.take 8) : Int) - 9223372036854775808))]) (cs := (encV (1, (beN (ys2.take 8) : Int) - 9223372036854775808, ⟨#[]⟩)).toArray) rfl Zl) rfl<|Zc (X.storeNE Zs88 ((hB1.ext hx2 zq36).ext hx3 zq36) rfl rfl rfl rfl (encV_one _)) rfl ?_
     rintro _ w4 ⟨hB4, hx4, hz4⟩
     refine Ze ?_
     refine X.ret_unw (X.unwR1 Zf129 Tryz.results129 (X.ResOk.cell rfl (X.lvN Zi88 Zs88 hB4 rfl)) ?_)
     rw [pKey, if_pos Zz, if_pos h8]
     exact ⟨_, rfl, ⟨rfl, by simp [okI], keyI_ok ys2, by simp [ByteArray.size]⟩, (hR3.ext hx4 zq36), (Ext.andThen (Ext.andThen (Ext.andThen (Ext.andThen (Ext.refl (fun k => k = rb) _) hk1 zq30) hx2 zq30) hx3 zq30) hx4 zq30)⟩
   ·rintro w3 hx3
    have hx3' := hx3.size
    refine X.unw_pan Zf129 ?_
    first
    | (rw [head_none hb2, pKey]; exact ⟨rfl, (Ext.andThen (Ext.andThen (Ext.andThen (Ext.refl (fun k => k = rb) _) hk1 zq30) hx2 zq30) hx3 zq30)⟩)
    | (rw [pKey, if_pos Zz, if_neg (by intro h; rw [if_pos h] at hb3; cases hb3)]; exact ⟨rfl, (Ext.andThen (Ext.andThen (Ext.andThen (Ext.refl (fun k => k = rb) _) hk1 zq30) hx2 zq30) hx3 zq30)⟩)
    | (rw [pKey, if_neg Zz, if_pos Zz, hb5]; exact ⟨rfl, (Ext.andThen (Ext.andThen (Ext.andThen (Ext.refl (fun k => k = rb) _) hk1 zq30) hx2 zq30) hx3 zq30)⟩)
    | (rw [pKey, if_neg Zz, if_neg Zz]; exact ⟨rfl, (Ext.andThen (Ext.andThen (Ext.andThen (Ext.refl (fun k => k = rb) _) hk1 zq30) hx2 zq30) hx3 zq30)⟩)
  ·refine Zoaf rfl rfl<|Ze<|Zf rfl<|Zs<|Zr<|X.opP X.wN rfl rfl (X.eqI rfl rfl) (fun h32 => ?_) (fun h32 => ?_)
   ·refine Zoat rfl rfl<|Ze<|Zt rfl<|Zs<|Zr<|Zom rfl rfl<|X.opPR (symbol_c hi rb T _ _ hR2) X.wN rfl Tryz.call163 rfl (fun b5 hb5 => ?_) (fun hb5 => ?_)
    ·rintro _ w5 ⟨⟨rfl, hn5⟩, hR5, hx5⟩
     have hx5' := hx5.size
     obtain ⟨a5, ys5⟩ := b5
     simp only at hR5 hn5
     refine Zo (X.buildB (vs := [(0, .int .i64 2), (2, .string ⟨a5.toArray⟩)]) (cs := (encV (2, 0, ⟨a5.toArray⟩)).toArray) rfl Zl) rfl<|Zc (X.storeNE Zs88 ((hB1.ext hx2 zq36).ext hx5 zq36) rfl rfl rfl rfl (encV_one _)) rfl ?_
     rintro _ w6 ⟨hB6, hx6, hz6⟩
     refine Ze ?_
     refine X.ret_unw (X.unwR1 Zf129 Tryz.results129 (X.ResOk.cell rfl (X.lvN Zi88 Zs88 hB6 rfl)) ?_)
     rw [pKey, if_neg Zz, if_pos Zz, hb5]
     exact ⟨_, rfl, ⟨rfl, by simp [okI], by simp [okI], by show a5.toArray.size ≤ _; simp; omega⟩, (hR5.ext hx6 zq36), (Ext.andThen (Ext.andThen (Ext.andThen (Ext.andThen (Ext.refl (fun k => k = rb) _) hk1 zq30) hx2 zq30) hx5 zq30) hx6 zq30)⟩
    ·rintro w5 hx5
     have hx5' := hx5.size
     refine X.unw_pan Zf129 ?_
     first
     | (rw [head_none hb2, pKey]; exact ⟨rfl, (Ext.andThen (Ext.andThen (Ext.andThen (Ext.refl (fun k => k = rb) _) hk1 zq30) hx2 zq30) hx5 zq30)⟩)
     | (rw [pKey, if_pos Zz, if_neg (by intro h; rw [if_pos h] at hb3; cases hb3)]; exact ⟨rfl, (Ext.andThen (Ext.andThen (Ext.andThen (Ext.refl (fun k => k = rb) _) hk1 zq30) hx2 zq30) hx5 zq30)⟩)
     | (rw [pKey, if_neg Zz, if_pos Zz, hb5]; exact ⟨rfl, (Ext.andThen (Ext.andThen (Ext.andThen (Ext.refl (fun k => k = rb) _) hk1 zq30) hx2 zq30) hx5 zq30)⟩)
     | (rw [pKey, if_neg Zz, if_neg Zz]; exact ⟨rfl, (Ext.andThen (Ext.andThen (Ext.andThen (Ext.refl (fun k => k = rb) _) hk1 zq30) hx2 zq30) hx5 zq30)⟩)
   ·refine Zoaf rfl rfl<|Ze<|Zf rfl<|Zr<|Zo (X.buildB (cs := #[]) rfl Zl) rfl<|Zo (X.mkIface Zu226 rfl rfl) rfl<|X.opPanic X.wN rfl<|X.unw_pan Zf129 ?_
    first
    | (rw [head_none hb2, pKey]; exact ⟨rfl, (Ext.andThen (Ext.andThen (Ext.refl (fun k => k = rb) _) hk1 zq30) hx2 zq30)⟩)
    | (rw [pKey, if_pos Zz, if_neg (by intro h; rw [if_pos h] at hb3; cases hb3)]; exact ⟨rfl, (Ext.andThen (Ext.andThen (Ext.refl (fun k => k = rb) _) hk1 zq30) hx2 zq30)⟩)
    | (rw [pKey, if_neg Zz, if_pos Zz, hb5]; exact ⟨rfl, (Ext.andThen (Ext.andThen (Ext.refl (fun k => k = rb) _) hk1 zq30) hx2 zq30)⟩)
    | (rw [pKey, if_neg Zz, if_neg Zz]; exact ⟨rfl, (Ext.andThen (Ext.andThen (Ext.refl (fun k => k = rb) _) hk1 zq30) hx2 zq30)⟩)
 ·rintro w2 hx2
  have hx2' := hx2.size
  refine X.unw_pan Zf129 ?_
  first
  | (rw [head_none hb2, pKey]; exact ⟨rfl, (Ext.andThen (Ext.andThen (Ext.refl (fun k => k = rb) _) hk1 zq30) hx2 zq30)⟩)
  | (rw [pKey, if_pos Zz, if_neg (by intro h; rw [if_pos h] at hb3; cases hb3)]; exact ⟨rfl, (Ext.andThen (Ext.andThen (Ext.refl (fun k => k = rb) _) hk1 zq30) hx2 zq30)⟩)
  | (rw [pKey, if_neg Zz, if_pos Zz, hb5]; exact ⟨rfl, (Ext.andThen (Ext.andThen (Ext.refl (fun k => k = rb) _) hk1 zq30) hx2 zq30)⟩)
  | (rw [pKey, if_neg Zz, if_neg Zz]; exact ⟨rfl, (Ext.andThen (Ext.andThen (Ext.refl (fun k => k = rb) _) hk1 zq30) hx2 zq30)⟩)
def pKeys : Nat → List UInt8 → Option (List VAL)
  | _, [] => some []
  | 0, _ :: _ => none
  | n + 1, c :: xs => match pKey (c :: xs) with
    | none => none
    | some (v, ys) => (pKeys n ys).map fun l => v :: l
def pFrom (xs : List UInt8) : Option (List VAL) :=
  match pKeys xs.length xs with
  | none => none
  | some l => if isT l then some l else none
theorem pSym_lt : ∀ (n : Nat) (xs : List UInt8), xs.length ≤ n → ∀ b, pSym xs = some b → b.2.length < xs.length ∧ b.1.length ≤ xs.length := by
  intro n
  induction n with
  | zero =>
    intro xs h b hb
    have : xs = [] := List.eq_nil_of_length_eq_zero Zz
    subst this; cases hb
  | succ n ih =>
    intro xs h b hb
    cases xs with
    | nil => cases hb
    | cons c xs =>
      simp only [List.length_cons] at *
      by_cases hc : c.toNat = 0
      · rw [pSym_0 hc] at hb
        cases xs with
        | nil => cases hb
        | cons d ys =>
          dsimp only at hb
          simp only [List.length_cons] at *
          split at hb
          · cases hb; simp only [List.length_nil]; omega
          · split at hb
            · obtain ⟨q, hq, rfl⟩ := Option.map_eq_some_iff.1 hb
              have := ih ys Zz q hq
              simp only [List.length_cons]; omega
            · cases hb
      · rw [pSym_1 hc] at hb
        obtain ⟨q, hq, rfl⟩ := Option.map_eq_some_iff.1 hb
        have := ih xs Zz q hq
        simp only [List.length_cons]; omega
theorem pKey_lt {xs : List UInt8} {b : VAL × List UInt8} (h : pKey xs = some b) : b.2.length < xs.length := by
  cases xs with
  | nil => cases h
  | cons c xs =>
    rw [pKey] at h
    simp only [List.length_cons]
    split at h
    · split at h
      · cases h; simp only [List.length_drop]; omega
      · cases h
    · split at h
      · obtain ⟨q, hq, rfl⟩ := Option.map_eq_some_iff.1 h
        have := (pSym_lt xs.length xs (Nat.le_refl _) q hq).1
        dsimp only; omega
      · cases h
theorem keys_map (o : Option (List VAL)) (s : List VAL) (v : VAL) : (o.map fun l => s ++ [v] ++ l) = ((o.map fun l => v :: l).map fun l => s ++ l) := by
  rw [Option.map_map]; congr 1; funext b; simp
theorem fromKey1_c (hi rb T : Nat) (xs : List UInt8) (w : World) (hr : Rd w hi rb T xs) : PP 128 #[.pointer (some ⟨rb, 0, none⟩)] w hi rb T ((pFrom xs).map fun l => (l, [])) (fun a v w' => Mine KV 88 (fun k => w.heap.size ≤ k) 0 0 w' v a ∧ (∀ u ∈ a, okV u) ∧ isT a = true) := by
 have hrl := hr.lt
 have hhr := hr.T
 refine X.enter Zf128 rfl Tryz.ntmps128 rfl<|Zs<|Zr<|Zoa rfl rfl<|Ze<|Zs<|Zr<|Zoa rfl rfl<|Ze<|Zs<|Zb<|X.loopL (σ := Value × List VAL × List UInt8 × Nat) (fun s => [(0, .pointer (some ⟨rb, 0, none⟩)), (3, s.1)]) (fun s w' => s.2.1.length + s.2.2.1.length ≤ T ∧ s.2.2.1.length ≤ s.2.2.2 ∧ (∀ u ∈ s.2.1, okV u) ∧ Mine KV 88 (fun k => w.heap.size ≤ k) 0 0 w' s.1 s.2.1 ∧ Rd w' hi rb T s.2.2.1 ∧ ((pKeys s.2.2.2 s.2.2.1).map fun l => s.2.1 ++ l) = pKeys xs.length xs ∧ Ext (fun k => k = rb) w w') (fun s => s.2.2.1.length) (_, [], xs, xs.length) ⟨rfl, rfl, trivial⟩ ⟨by simp; omega, by simp, by simp, (Mine.nil _ _ _ _ _ _), hr, by simp, (Ext.refl (fun k => k = rb) _)⟩ ?_
 rintro ⟨v, s, l, n⟩ b wl ⟨hll, hln, hlo, hM, hR, hp, hk⟩ hback
 simp only at hll hln hlo hM hR hp
 have hk' := hk.size
 have hrl2 := hR.lt
 have hR' := hR
 obtain ⟨A, c, hnc, hB, hsl, hh1, hh2, hh3⟩ := hR'
 refine Zs<|Zs<|Zr<|Zom rfl rfl<|Zo (X.nilCk rfl) rfl<|Zo (X.fldB (j := 0) Zu224 rfl rfl Zs222 rfl) rfl<|Zo (X.fldB (j := 0) Zu222 rfl rfl Zs81 rfl) rfl<|Zo (X.load1B Zi81 hB rfl rfl) rfl<|Zo (X.lenSl Zu81 rfl) rfl<|X.opP X.wN rfl rfl (X.gtr rfl rfl) (fun h10 => ?_) (fun h10 => ?_)
 ·refine Ze<|Zt rfl<|Zk<|Zb<|Zr<|Zom rfl rfl<|Zom rfl rfl<|X.opPR (keyed_c hi rb T _ _ hR) X.wN rfl Tryz.call129 rfl (fun b1 hb1 => ?_) (fun hb1 => ?_)
  ·rintro _ w1 ⟨⟨rfl, hn1⟩, hR1, hx1⟩
   have hx1' := hx1.size
   have hlt := pKey_lt hb1
   obtain ⟨a1, ys1⟩ := b1
   simp only at hR1 hn1
   simp only at hlt
   refine Zc (X.litKE (K := KV) (xs := [Operand.tmp 13]) (vs := [.agg (encV a1).toArray]) (ys := [a1]) Zu90 Zs88 Zv88 rfl rfl rfl rfl rfl (litV_ok hn1)) rfl ?_
   rintro _ w2 ⟨rfl, hs2, hB2, hk2, hz2⟩
   refine Zc (X.appE (K := KV) (S := fun k => w.heap.size ≤ k) KV_flat Zu90 EV rfl rfl ((hM.ext hx1 zq36 zq36).keep hk2) hs2 zq15 zq34) rfl ?_
   rintro v3 w3 ⟨hM3, hx3⟩
   have hx3' := hx3.size
   refine Zoa rfl rfl<|Ze<|Zi ?_
   refine hback (_, s ++ [a1], ys1, n - 1) _ _ ⟨rfl, rfl, trivial⟩ ⟨by simp only [List.length_append, List.length_cons, List.length_nil]; omega, by dsimp only; omega, by intro u hu; simp only [List.mem_append, List.mem_singleton] at hu; rcases hu with hu | rfl; exact hlo u hu; exact hn1, hM3, ((hR1.keep hk2).ext hx3 zq36), ?_, (Ext.andThen (Ext.andThen (Ext.andThen (Ext.andThen (Ext.refl (fun k => k = rb) _) hk zq30) hx1 zq30) hk2 zq30) hx3 zq30)⟩ (by dsimp only; omega)
   dsimp only
   rw [← hp, keys_map]
   congr 1
   rcases hq : l with _ | ⟨c0, l0⟩
   ·subst hq; simp at hlt
   ·rw [hq] at hb1 hln
    obtain ⟨n', rfl⟩ : ∃ n', n = n' + 1 := ⟨n - 1, by simp at hln; omega⟩
    rw [pKeys, hb1]; rfl
  ·rintro w1 hx1
   have hx1' := hx1.size
   refine X.unw_pan Zf128 ?_
   first
   | (rw [pFrom, ← hp]; rcases hq : l with _ | ⟨c0, l0⟩; · subst hq; simp at h10
      ·rw [hq] at hb1 hln; obtain ⟨n', rfl⟩ : ∃ n', n = n' + 1 := ⟨n - 1, by simp at hln; omega⟩; rw [pKeys, hb1]; exact ⟨rfl, (Ext.andThen (Ext.andThen (Ext.refl (fun k => k = rb) _) hk zq30) hx1 zq30)⟩)
   | (rw [pFrom, ← hp]; dsimp only; rw [if_neg (by simpa using hc)]; exact ⟨rfl, (Ext.andThen (Ext.andThen (Ext.refl (fun k => k = rb) _) hk zq30) hx1 zq30)⟩)
 ·have hl0 : l = [] := List.eq_nil_of_length_eq_zero Zz
  subst hl0
  rw [pKeys] at hp
  simp only [Option.map_some, List.append_nil] at hp
  refine Ze<|Zf rfl<|Zx rfl<|Zs<|Zs<|Zr<|Zom rfl rfl ?_
  have q5 := hM.slF KV_flat 0 (fun _ _ => Nat.zero_le _)
  obtain ⟨A5, c5, rfl, hc5, hs5⟩ := q5
  refine Zc (X.callE (may_c _ hs5) Tryz.call116 rfl rfl) rfl ?_
  rintro _ w4 ⟨rfl, hk4⟩
  have hk4' := hk4.size
  refine Zo (X.not_ rfl) rfl<|Ze<|X.condB rfl (fun hc => ?_) (fun hc => ?_)
  ·refine Zr<|Zo (X.buildB (cs := #[]) rfl Zl) rfl<|Zo (X.mkIface Zu226 rfl rfl) rfl<|X.opPanic X.wN rfl<|X.unw_pan Zf128 ?_
   first
   | (rw [pFrom, ← hp]; rcases hq : l with _ | ⟨c0, l0⟩; · subst hq; simp at h10
      ·rw [hq] at hb1 hln; obtain ⟨n', rfl⟩ : ∃ n', n = n' + 1 := ⟨n - 1, by simp at hln; omega⟩; rw [pKeys, hb1]; exact ⟨rfl, (Ext.andThen (Ext.andThen (Ext.refl (fun k => k = rb) _) hk zq30) hk4 zq30)⟩)
   | (rw [pFrom, ← hp]; dsimp only; rw [if_neg (by simpa using hc)]; exact ⟨rfl, (Ext.andThen (Ext.andThen (Ext.refl (fun k => k = rb) _) hk zq30) hk4 zq30)⟩)
  ·have hT : isT s = true := by simpa using hc
   refine Zk<|Zs<|Zr<|Zom rfl rfl<|Zoa rfl rfl<|Ze<|X.ret1 Zf128 Tryz.results128 rfl ?_
   rw [pFrom, ← hp]
   dsimp only
   rw [if_pos hT]
   exact ⟨_, rfl, ⟨(hM.keep hk4), hlo, hT⟩, (hR.keep hk4), (Ext.andThen (Ext.andThen (Ext.refl (fun k => k = rb) _) hk zq30) hk4 zq30)⟩
theorem caught_0 (be : Nat) (w : World) : DCall Tryz.prog 159 #[.pointer (some ⟨be, 0, none⟩)] w .returning fun m w' => m = .returning ∧ w' = w := by
 refine X.DCall.rec (mode' := .returning) (v := .nilIface) Zf159 rfl Tryz.ntmps159 rfl rfl rfl<|Zb<|Zs<|Zr<|Zo (X.eqIf0 Zu20 rfl rfl) rfl<|Ze<|Zt rfl<|Zs<|Zr<|Zoa rfl rfl<|Ze<|X.ret0 Zf159 Tryz.results159 ?_
 exact ⟨rfl, rfl⟩
theorem caught_1 (be : Nat) (x : Value) (w : World) (hB : Blk w be [x] 25) : DCall Tryz.prog 159 #[.pointer (some ⟨be, 0, none⟩)] w (.panicking [{ v := FAULT, recovered := false }]) fun m w' => m = .panicking [{ v := FAULT, recovered := true }] ∧ Blk w' be [.int .i64 30] 25 ∧ Ext (fun k => k = be) w w' := by
 have hlt := hB.lt
 refine X.DCall.rec (mode' := .panicking [{ v := FAULT, recovered := true }]) (v := FAULT) Zf159 rfl Tryz.ntmps159 rfl rfl rfl<|Zb<|Zs<|Zr<|Zo (X.eqIf1 Zu20 rfl rfl) rfl<|Ze<|Zf rfl<|Zs<|Zr<|Zo (X.tAssert Zu226 rfl rfl) rfl<|Zo (X.extr (v := .bool true) rfl rfl) rfl<|Zo (X.extr rfl rfl) rfl<|Ze<|Zt rfl<|Zs<|Zr<|Zc (X.allocE Tryz.zeroValue226 rfl) rfl ?_
 rintro _ w1 ⟨rfl, hB1, hk1, hz1⟩
 refine Zc (X.storeNE Tryz.sizeOf226 hB1 rfl rfl rfl rfl (fun _ h => by cases h)) rfl ?_
 rintro _ w2 ⟨hB2, hx2, hz2⟩
 refine Ze<|Zr<|Zom rfl rfl<|Zo (X.nilCk rfl) rfl<|Zc (X.storeE Zs25 (hB.keep (hk1.step hx2 zq34)) rfl rfl rfl rfl) rfl ?_
 rintro _ w3 ⟨hB3, hx3, hz3⟩
 refine Ze<|Zi<|X.end0 Zf159 Tryz.results159 ?_
 exact ⟨rfl, hB3, (Ext.andThen (Ext.andThen (Ext.andThen (Ext.refl (fun k => k = be) _) hk1 zq30) hx2 zq30) hx3 zq30)⟩
theorem zero0_u64 (be bx bn : Nat) (w : World) (hE : Blk w be [.int .i64 0] 25) : Ret Tryz.prog 182 #[.pointer (some ⟨be, 0, none⟩), .pointer (some ⟨bx, 0, none⟩), .pointer (some ⟨bn, 0, none⟩)] w fun _ w' => w' = w := by
 refine X.enter Zf182 rfl Tryz.ntmps182 rfl<|Zs<|Zr<|Zo (X.load1B Zi25 hE rfl rfl) rfl<|X.opP X.wN rfl rfl (X.neI rfl rfl) (fun h5 => ?_) (fun h5 => ?_)
 ·exact absurd rfl h5
 ·refine Ze<|Zf rfl<|Zk<|X.end0 Zf182 Tryz.results182 ?_
  rfl
theorem zero1_u64 (be bx bn : Nat) (x k : Value) (w : World) (hE : Blk w be [.int .i64 30] 25) (hX : Blk w bx [x] 154) (hN : Blk w bn [k] 3) (h1 : bx ≠ be) (h2 : bn ≠ be) (h3 : bn ≠ bx) : Ret Tryz.prog 182 #[.pointer (some ⟨be, 0, none⟩), .pointer (some ⟨bx, 0, none⟩), .pointer (some ⟨bn, 0, none⟩)] w
    fun _ w' => Blk w' be [.int .i64 30] 25 ∧ Blk w' bx [.int .u64 0] 154 ∧ Blk w' bn [.int .i64 0] 3 ∧ Ext (fun k => k = bx ∨ k = bn) w w' := by
 refine X.enter Zf182 rfl Tryz.ntmps182 rfl<|Zs<|Zr<|Zo (X.load1B Zi25 hE rfl rfl) rfl<|X.opP X.wN rfl rfl (X.neI rfl rfl) (fun h5 => ?_) (fun h5 => ?_)
 ·refine Ze<|Zt rfl<|Zs<|Zr<|Zoa rfl rfl<|Ze<|Zr<|Zomu rfl rfl<|Zc (X.storeE Zs154 hX rfl rfl rfl rfl) rfl ?_
  rintro _ w1 ⟨hB1, hx1, hz1⟩
  refine Zc (X.storeE Zs3 (hN.ext hx1 zq36) rfl rfl rfl rfl) rfl ?_
  rintro _ w2 ⟨hB2, hx2, hz2⟩
  refine Ze<|X.end0 Zf182 Tryz.results182 ?_
  exact ⟨((hE.ext hx1 zq36).ext hx2 zq36), (hB1.ext hx2 zq36), hB2, (Ext.andThen (Ext.andThen (Ext.refl (fun k => k = bx ∨ k = bn) _) hx1 zq30) hx2 zq30)⟩
 ·exact absurd (by decide) h5
theorem take_u64 {α : Type} (p : List UInt8 → Option (α × List UInt8)) (V : World → α → Value → World → Prop) (G : Nat) (cap : List Value) (hG : ∀ args w, (callFunc G args).run Tryz.prog w = .ok (.enter G args) w) (xs : List UInt8) (A : Option Addr) (n c : Nat) (w : World) (hs : Sl KB 0 w.heap.size w A n xs) (hnc : n ≤ c) (hn : n ≤ 1000000)
    (hV1 : ∀ wb a v w1, V wb a v w1 → v.oneCell' = true) (hV2 : ∀ wb a v w1 w2 U, V wb a v w1 → Ext U w1 w2 → (∀ k, U k → k < wb.heap.size) → V wb a v w2)
    (hP : ∀ w' rb, Keep w w' → Rd w' rb rb n xs → PP G ([Value.pointer (some ⟨rb, 0, none⟩)] ++ cap).toArray w' rb rb n (p xs) (V w')) :
    Ret Tryz.prog 155 #[.slice A n c, .func (.func G) #[] cap.toArray] w fun r w' => (match p xs with
      | some (a, ys) => ∃ v wb, r = .tuple #[v, .int .i64 ((n : Int) - (ys.length : Int)), .int .i64 0] ∧ V wb a v w' ∧ Keep w wb ∧ wb.heap.size ≤ w'.heap.size
      | none => r = .tuple #[.int .u64 0, .int .i64 0, .int .i64 30]) ∧ Keep w w' := by
 have hl := hs.len
 refine X.enter Tryz.func155 rfl Tryz.ntmps155 rfl<|Zs<|Zr<|Zc (X.allocE Tryz.zeroValue154 rfl) rfl ?_
 rintro _ w1 ⟨rfl, hB1, hk1, hz1⟩
 refine Zc (X.allocE Zv3 rfl) rfl ?_
 rintro _ w2 ⟨rfl, hB2, hk2, hz2⟩
 refine Zc (X.allocE Zv25 rfl) rfl ?_
 rintro _ w3 ⟨rfl, hB3, hk3, hz3⟩
 refine Ze<|Zs<|Zr<|Zo (X.mkFunc rfl) rfl<|X.opDefer X.wN rfl rfl<|Ze<|Zs<|Zr<|X.opDefer X.wN rfl rfl<|Ze<|Zs<|Zr<|Zoms rfl rfl<|Zc (X.callE (over_c _ ((hs.keep ((hk1.trans hk2).trans hk3)).wide (Nat.le_refl _) Zz) hnc hn) Zc160 rfl rfl) rfl ?_
 rintro _ w4 ⟨rfl, hR4, hk4, hz4⟩
 refine Zoa rfl rfl<|Ze<|Zs<|Zr<|Zom rfl rfl<|Zom rfl rfl ?_
 refine X.opPRV (vs := [_]) rfl (hP _ _ (((hk1.trans hk2).trans hk3).trans hk4) hR4) X.wN rfl hG rfl (fun b5 hb5 => ?_) (fun hb5 => ?_)
 ·rintro v5 w5 ⟨hv5, hR5, hx5⟩
  have hx5' := hx5.size
  obtain ⟨Ar, cr, hr1, hB5, hr2, hr3, hr4, hr5⟩ := hR5
  refine Zc (X.storeE Zs154 ((hB1.keep ((hk2.trans hk3).trans hk4)).ext hx5 zq36) rfl rfl rfl (hV1 _ _ _ _ hv5)) rfl ?_
  rintro _ w6 ⟨hB6, hx6, hz6⟩
  refine Ze<|Zs<|X.regionD (fun k => k = w.heap.size) 6 Zl Zl (fun w7 hk7 hz7 => ?_)
  refine ZDc 1 rfl Zl (X.move rfl)<|ZDc 2 rfl Zl (X.nilCk rfl)<|ZDc 3 rfl Zl (X.fldB (j := 1) Zu224 rfl rfl Zs3 rfl)<|ZD 4 rfl Zl (fun w' hk' => X.load1B Zi3 (((hB5.ext hx6 zq36).keep hk7).ext hk' zq36) rfl rfl) ?_
  refine X.dStep (i := 0) Zl rfl (X.dwN rfl) (X.load1B Zi154 (hB6.keep hk7) rfl rfl) (fun _ => Ext.refl _ _)<|X.dE (i := 5) Zl rfl (X.dwN rfl) (X.storeE Zs154 (hB6.keep hk7) rfl rfl rfl (hV1 _ _ _ _ hv5)) (by rintro _ w8 ⟨hB8, hx8, hz8⟩ _; exact hx8) ?_
  rintro _ w8 ⟨hB8, hx8, hz8⟩
  refine X.dE (i := 6) Zl rfl (X.dwN rfl) (X.storeE Zs3 (((((hB2.keep (hk3.trans hk4)).ext hx5 zq36).ext hx6 zq36).keep hk7).ext hx8 zq36) rfl rfl rfl rfl) (fun _ _ _ h => absurd h (by decide)) ?_
  rintro _ w9 ⟨hB9, hx9, hz9⟩
  refine X.dE (i := 7) Zl rfl (X.dwN rfl) (X.storeE Zs25 ((((((hB3.keep hk4).ext hx5 zq36).ext hx6 zq36).keep hk7).ext hx8 zq36).ext hx9 zq36) rfl rfl rfl rfl) (fun _ _ _ h => absurd h (by decide)) ?_
  rintro _ w10 ⟨hB10, hx10, hz10⟩
  refine Zdend Zl<|X.ret_unw<|X.unw_defer Zc159 (fun h => by cases h) (caught_0 _ _) ?_
  rintro m wz ⟨rfl, rfl⟩
  show X.Unw _ _ _ FrameMode.returning _ _ _ _
  refine X.unw_defer Tryz.call182 (fun h => by cases h) (X.DCall.of_ret (zero0_u64 _ _ _ _ hB10)) ?_
  rintro m wz ⟨rfl, vz, rfl⟩
  show X.Unw _ _ _ FrameMode.returning _ _ _ _
  refine X.unwR3 Tryz.func155 Tryz.results155 (X.ResOk.cell rfl (X.lv1 Zi154 ((hB8.ext hx9 zq36).ext hx10 zq36) rfl)) (X.ResOk.cell rfl (X.lv1 Zi3 (hB9.ext hx10 zq36) rfl)) (X.ResOk.cell rfl (X.lv1 Zi25 hB10 rfl)) ?_
  refine ⟨?_, (((((((((hk1.trans hk2).trans hk3).trans hk4).step hx5 zq34).step hx6 zq34).trans hk7).step hx8 zq34).step hx9 zq34).step hx10 zq34)⟩
  rw [hb5]
  obtain ⟨a5, ys5⟩ := b5
  exact ⟨v5, w4, rfl, hV2 _ _ _ _ _ _ (hV2 _ _ _ _ _ _ (hV2 _ _ _ _ _ _ (hV2 _ _ _ _ _ _ (hV2 _ _ _ _ _ _ hv5 hx6 zq31) hk7 zq31) hx8 zq31) hx9 zq31) hx10 zq31, (((hk1.trans hk2).trans hk3).trans hk4), by omega⟩
 ·rintro w5 hx5
  have hx5' := hx5.size
  refine X.unw_defer Zc159 (fun h => by cases h) (caught_1 _ _ _ ((hB3.keep hk4).ext hx5 zq36)) ?_
  rintro m wz ⟨rfl, hBz, hxz⟩
  have hxz' := hxz.size
  show X.Unw _ _ _ FrameMode.returning _ _ _ _
  refine X.unw_defer Tryz.call182 (fun h => by cases h) (X.DCall.of_ret (zero1_u64 _ _ _ _ _ _ hBz (((hB1.keep ((hk2.trans hk3).trans hk4)).ext hx5 zq36).ext hxz zq36) (((hB2.keep (hk3.trans hk4)).ext hx5 zq36).ext hxz zq36) Zz Zz Zz)) ?_
  rintro m wq ⟨rfl, vq, hq1, hq2, hq3, hq4⟩
  show X.Unw _ _ _ FrameMode.returning _ _ _ _
  refine X.unwR3 Tryz.func155 Tryz.results155 (X.ResOk.cell rfl (X.lv1 Zi154 hq2 rfl)) (X.ResOk.cell rfl (X.lv1 Zi3 hq3 rfl)) (X.ResOk.cell rfl (X.lv1 Zi25 hq1 rfl)) ?_
  refine ⟨?_, ((((((hk1.trans hk2).trans hk3).trans hk4).step hx5 zq34).step hxz zq34).step hq4 zq34)⟩
  rw [hb5]
theorem zero0_row (be bx bn : Nat) (w : World) (hE : Blk w be [.int .i64 0] 25) : Ret Tryz.prog 158 #[.pointer (some ⟨be, 0, none⟩), .pointer (some ⟨bx, 0, none⟩), .pointer (some ⟨bn, 0, none⟩)] w fun _ w' => w' = w := by
 refine X.enter Zf158 rfl Tryz.ntmps158 rfl<|Zs<|Zr<|Zo (X.load1B Zi25 hE rfl rfl) rfl<|X.opP X.wN rfl rfl (X.neI rfl rfl) (fun h5 => ?_) (fun h5 => ?_)
 ·exact absurd rfl h5
 ·refine Ze<|Zf rfl<|Zk<|X.end0 Zf158 Tryz.results158 ?_
  rfl
theorem zero1_row (be bx bn : Nat) (x k : Value) (w : World) (hE : Blk w be [.int .i64 30] 25) (hX : Blk w bx [x] 81) (hN : Blk w bn [k] 3) (h1 : bx ≠ be) (h2 : bn ≠ be) (h3 : bn ≠ bx) : Ret Tryz.prog 158 #[.pointer (some ⟨be, 0, none⟩), .pointer (some ⟨bx, 0, none⟩), .pointer (some ⟨bn, 0, none⟩)] w
    fun _ w' => Blk w' be [.int .i64 30] 25 ∧ Blk w' bx [.slice none 0 0] 81 ∧ Blk w' bn [.int .i64 0] 3 ∧ Ext (fun k => k = bx ∨ k = bn) w w' := by
 refine X.enter Zf158 rfl Tryz.ntmps158 rfl<|Zs<|Zr<|Zo (X.load1B Zi25 hE rfl rfl) rfl<|X.opP X.wN rfl rfl (X.neI rfl rfl) (fun h5 => ?_) (fun h5 => ?_)
 ·refine Ze<|Zt rfl<|Zs<|Zr<|Zoa rfl rfl<|Ze<|Zr<|Zom rfl rfl<|Zc (X.storeE Zs81 hX rfl rfl rfl rfl) rfl ?_
  rintro _ w1 ⟨hB1, hx1, hz1⟩
  refine Zc (X.storeE Zs3 (hN.ext hx1 zq36) rfl rfl rfl rfl) rfl ?_
  rintro _ w2 ⟨hB2, hx2, hz2⟩
  refine Ze<|X.end0 Zf158 Tryz.results158 ?_
  exact ⟨((hE.ext hx1 zq36).ext hx2 zq36), (hB1.ext hx2 zq36), hB2, (Ext.andThen (Ext.andThen (Ext.refl (fun k => k = bx ∨ k = bn) _) hx1 zq30) hx2 zq30)⟩
 ·exact absurd (by decide) h5
theorem take_row {α : Type} (p : List UInt8 → Option (α × List UInt8)) (V : World → α → Value → World → Prop) (G : Nat) (cap : List Value) (hG : ∀ args w, (callFunc G args).run Tryz.prog w = .ok (.enter G args) w) (xs : List UInt8) (A : Option Addr) (n c : Nat) (w : World) (hs : Sl KB 0 w.heap.size w A n xs) (hnc : n ≤ c) (hn : n ≤ 1000000)
    (hV1 : ∀ wb a v w1, V wb a v w1 → v.oneCell' = true) (hV2 : ∀ wb a v w1 w2 U, V wb a v w1 → Ext U w1 w2 → (∀ k, U k → k < wb.heap.size) → V wb a v w2)
    (hP : ∀ w' rb, Keep w w' → Rd w' rb rb n xs → PP G ([Value.pointer (some ⟨rb, 0, none⟩)] ++ cap).toArray w' rb rb n (p xs) (V w')) :
    Ret Tryz.prog 124 #[.slice A n c, .func (.func G) #[] cap.toArray] w fun r w' => (match p xs with
      | some (a, ys) => ∃ v wb, r = .tuple #[v, .int .i64 ((n : Int) - (ys.length : Int)), .int .i64 0] ∧ V wb a v w' ∧ Keep w wb ∧ wb.heap.size ≤ w'.heap.size
      | none => r = .tuple #[.slice none 0 0, .int .i64 0, .int .i64 30]) ∧ Keep w w' := by
 have hl := hs.len
 refine X.enter Tryz.func124 rfl Tryz.ntmps124 rfl<|Zs<|Zr<|Zc (X.allocE Tryz.zeroValue81 rfl) rfl ?_
 rintro _ w1 ⟨rfl, hB1, hk1, hz1⟩
 refine Zc (X.allocE Zv3 rfl) rfl ?_
 rintro _ w2 ⟨rfl, hB2, hk2, hz2⟩
 refine Zc (X.allocE Zv25 rfl) rfl ?_
 rintro _ w3 ⟨rfl, hB3, hk3, hz3⟩
 refine Ze<|Zs<|Zr<|Zo (X.mkFunc rfl) rfl<|X.opDefer X.wN rfl rfl<|Ze<|Zs<|Zr<|X.opDefer X.wN rfl rfl<|Ze<|Zs<|Zr<|Zoms rfl rfl<|Zc (X.callE (over_c _ ((hs.keep ((hk1.trans hk2).trans hk3)).wide (Nat.le_refl _) Zz) hnc hn) Zc160 rfl rfl) rfl ?_
 rintro _ w4 ⟨rfl, hR4, hk4, hz4⟩
 refine Zoa rfl rfl<|Ze<|Zs<|Zr<|Zom rfl rfl<|Zom rfl rfl ?_
 refine X.opPRV (vs := [_]) rfl (hP _ _ (((hk1.trans hk2).trans hk3).trans hk4) hR4) X.wN rfl hG rfl (fun b5 hb5 => ?_) (fun hb5 => ?_)
 ·rintro v5 w5 ⟨hv5, hR5, hx5⟩
  have hx5' := hx5.size
  obtain ⟨Ar, cr, hr1, hB5, hr2, hr3, hr4, hr5⟩ := hR5
  refine Zc (X.storeE Zs81 ((hB1.keep ((hk2.trans hk3).trans hk4)).ext hx5 zq36) rfl rfl rfl (hV1 _ _ _ _ hv5)) rfl ?_
  rintro _ w6 ⟨hB6, hx6, hz6⟩
  refine Ze<|Zs<|X.regionD (fun k => k = w.heap.size) 6 Zl Zl (fun w7 hk7 hz7 => ?_)
  refine ZDc 1 rfl Zl (X.move rfl)<|ZDc 2 rfl Zl (X.nilCk rfl)<|ZDc 3 rfl Zl (X.fldB (j := 1) Zu224 rfl rfl Zs3 rfl)<|ZD 4 rfl Zl (fun w' hk' => X.load1B Zi3 (((hB5.ext hx6 zq36).keep hk7).ext hk' zq36) rfl rfl) ?_
  refine X.dStep (i := 0) Zl rfl (X.dwN rfl) (X.load1B Zi81 (hB6.keep hk7) rfl rfl) (fun _ => Ext.refl _ _)<|X.dE (i := 5) Zl rfl (X.dwN rfl) (X.storeE Zs81 (hB6.keep hk7) rfl rfl rfl (hV1 _ _ _ _ hv5)) (by rintro _ w8 ⟨hB8, hx8, hz8⟩ _; exact hx8) ?_
  rintro _ w8 ⟨hB8, hx8, hz8⟩
  refine X.dE (i := 6) Zl rfl (X.dwN rfl) (X.storeE Zs3 (((((hB2.keep (hk3.trans hk4)).ext hx5 zq36).ext hx6 zq36).keep hk7).ext hx8 zq36) rfl rfl rfl rfl) (fun _ _ _ h => absurd h (by decide)) ?_
  rintro _ w9 ⟨hB9, hx9, hz9⟩
  refine X.dE (i := 7) Zl rfl (X.dwN rfl) (X.storeE Zs25 ((((((hB3.keep hk4).ext hx5 zq36).ext hx6 zq36).keep hk7).ext hx8 zq36).ext hx9 zq36) rfl rfl rfl rfl) (fun _ _ _ h => absurd h (by decide)) ?_
  rintro _ w10 ⟨hB10, hx10, hz10⟩
  refine Zdend Zl<|X.ret_unw<|X.unw_defer Zc159 (fun h => by cases h) (caught_0 _ _) ?_
  rintro m wz ⟨rfl, rfl⟩
  show X.Unw _ _ _ FrameMode.returning _ _ _ _
  refine X.unw_defer Tryz.call158 (fun h => by cases h) (X.DCall.of_ret (zero0_row _ _ _ _ hB10)) ?_
  rintro m wz ⟨rfl, vz, rfl⟩
  show X.Unw _ _ _ FrameMode.returning _ _ _ _
  refine X.unwR3 Tryz.func124 Tryz.results124 (X.ResOk.cell rfl (X.lv1 Zi81 ((hB8.ext hx9 zq36).ext hx10 zq36) rfl)) (X.ResOk.cell rfl (X.lv1 Zi3 (hB9.ext hx10 zq36) rfl)) (X.ResOk.cell rfl (X.lv1 Zi25 hB10 rfl)) ?_
  refine ⟨?_, (((((((((hk1.trans hk2).trans hk3).trans hk4).step hx5 zq34).step hx6 zq34).trans hk7).step hx8 zq34).step hx9 zq34).step hx10 zq34)⟩
  rw [hb5]
  obtain ⟨a5, ys5⟩ := b5
  exact ⟨v5, w4, rfl, hV2 _ _ _ _ _ _ (hV2 _ _ _ _ _ _ (hV2 _ _ _ _ _ _ (hV2 _ _ _ _ _ _ (hV2 _ _ _ _ _ _ hv5 hx6 zq31) hk7 zq31) hx8 zq31) hx9 zq31) hx10 zq31, (((hk1.trans hk2).trans hk3).trans hk4), by omega⟩
 ·rintro w5 hx5
  have hx5' := hx5.size
  refine X.unw_defer Zc159 (fun h => by cases h) (caught_1 _ _ _ ((hB3.keep hk4).ext hx5 zq36)) ?_
  rintro m wz ⟨rfl, hBz, hxz⟩
  have hxz' := hxz.size
  show X.Unw _ _ _ FrameMode.returning _ _ _ _
  refine X.unw_defer Tryz.call158 (fun h => by cases h) (X.DCall.of_ret (zero1_row _ _ _ _ _ _ hBz (((hB1.keep ((hk2.trans hk3).trans hk4)).ext hx5 zq36).ext hxz zq36) (((hB2.keep (hk3.trans hk4)).ext hx5 zq36).ext hxz zq36) Zz Zz Zz)) ?_
  rintro m wq ⟨rfl, vq, hq1, hq2, hq3, hq4⟩
  show X.Unw _ _ _ FrameMode.returning _ _ _ _
  refine X.unwR3 Tryz.func124 Tryz.results124 (X.ResOk.cell rfl (X.lv1 Zi81 hq2 rfl)) (X.ResOk.cell rfl (X.lv1 Zi3 hq3 rfl)) (X.ResOk.cell rfl (X.lv1 Zi25 hq1 rfl)) ?_
  refine ⟨?_, ((((((hk1.trans hk2).trans hk3).trans hk4).step hx5 zq34).step hxz zq34).step hq4 zq34)⟩
  rw [hb5]
theorem zero0_tup (be bx bn : Nat) (w : World) (hE : Blk w be [.int .i64 0] 25) : Ret Tryz.prog 162 #[.pointer (some ⟨be, 0, none⟩), .pointer (some ⟨bx, 0, none⟩), .pointer (some ⟨bn, 0, none⟩)] w fun _ w' => w' = w := by
 refine X.enter Zf162 rfl Tryz.ntmps162 rfl<|Zs<|Zr<|Zo (X.load1B Zi25 hE rfl rfl) rfl<|X.opP X.wN rfl rfl (X.neI rfl rfl) (fun h5 => ?_) (fun h5 => ?_)
 ·exact absurd rfl h5
 ·refine Ze<|Zf rfl<|Zk<|X.end0 Zf162 Tryz.results162 ?_
  rfl
theorem zero1_tup (be bx bn : Nat) (x k : Value) (w : World) (hE : Blk w be [.int .i64 30] 25) (hX : Blk w bx [x] 90) (hN : Blk w bn [k] 3) (h1 : bx ≠ be) (h2 : bn ≠ be) (h3 : bn ≠ bx) : Ret Tryz.prog 162 #[.pointer (some ⟨be, 0, none⟩), .pointer (some ⟨bx, 0, none⟩), .pointer (some ⟨bn, 0, none⟩)] w
    fun _ w' => Blk w' be [.int .i64 30] 25 ∧ Blk w' bx [.slice none 0 0] 90 ∧ Blk w' bn [.int .i64 0] 3 ∧ Ext (fun k => k = bx ∨ k = bn) w w' := by
 refine X.enter Zf162 rfl Tryz.ntmps162 rfl<|Zs<|Zr<|Zo (X.load1B Zi25 hE rfl rfl) rfl<|X.opP X.wN rfl rfl (X.neI rfl rfl) (fun h5 => ?_) (fun h5 => ?_)
 ·refine Ze<|Zt rfl<|Zs<|Zr<|Zoa rfl rfl<|Ze<|Zr<|Zom rfl rfl<|Zc (X.storeE Zs90 hX rfl rfl rfl rfl) rfl ?_
  rintro _ w1 ⟨hB1, hx1, hz1⟩
  refine Zc (X.storeE Zs3 (hN.ext hx1 zq36) rfl rfl rfl rfl) rfl ?_
  rintro _ w2 ⟨hB2, hx2, hz2⟩
  refine Ze<|X.end0 Zf162 Tryz.results162 ?_
  exact ⟨((hE.ext hx1 zq36).ext hx2 zq36), (hB1.ext hx2 zq36), hB2, (Ext.andThen (Ext.andThen (Ext.refl (fun k => k = bx ∨ k = bn) _) hx1 zq30) hx2 zq30)⟩
 ·exact absurd (by decide) h5
theorem take_tup {α : Type} (p : List UInt8 → Option (α × List UInt8)) (V : World → α → Value → World → Prop) (G : Nat) (cap : List Value) (hG : ∀ args w, (callFunc G args).run Tryz.prog w = .ok (.enter G args) w) (xs : List UInt8) (A : Option Addr) (n c : Nat) (w : World) (hs : Sl KB 0 w.heap.size w A n xs) (hnc : n ≤ c) (hn : n ≤ 1000000)
    (hV1 : ∀ wb a v w1, V wb a v w1 → v.oneCell' = true) (hV2 : ∀ wb a v w1 w2 U, V wb a v w1 → Ext U w1 w2 → (∀ k, U k → k < wb.heap.size) → V wb a v w2)
    (hP : ∀ w' rb, Keep w w' → Rd w' rb rb n xs → PP G ([Value.pointer (some ⟨rb, 0, none⟩)] ++ cap).toArray w' rb rb n (p xs) (V w')) :
    Ret Tryz.prog 127 #[.slice A n c, .func (.func G) #[] cap.toArray] w fun r w' => (match p xs with
      | some (a, ys) => ∃ v wb, r = .tuple #[v, .int .i64 ((n : Int) - (ys.length : Int)), .int .i64 0] ∧ V wb a v w' ∧ Keep w wb ∧ wb.heap.size ≤ w'.heap.size
      | none => r = .tuple #[.slice none 0 0, .int .i64 0, .int .i64 30]) ∧ Keep w w' := by
 have hl := hs.len
 refine X.enter Tryz.func127 rfl Tryz.ntmps127 rfl<|Zs<|Zr<|Zc (X.allocE Tryz.zeroValue90 rfl) rfl ?_
 rintro _ w1 ⟨rfl, hB1, hk1, hz1⟩
 refine Zc (X.allocE Zv3 rfl) rfl ?_
 rintro _ w2 ⟨rfl, hB2, hk2, hz2⟩
 refine Zc (X.allocE Zv25 rfl) rfl ?_
 rintro _ w3 ⟨rfl, hB3, hk3, hz3⟩
 refine Ze<|Zs<|Zr<|Zo (X.mkFunc rfl) rfl<|X.opDefer X.wN rfl rfl<|Ze<|Zs<|Zr<|X.opDefer X.wN rfl rfl<|Ze<|Zs<|Zr<|Zoms rfl rfl<|Zc (X.callE (over_c _ ((hs.keep ((hk1.trans hk2).trans hk3)).wide (Nat.le_refl _) Zz) hnc hn) Zc160 rfl rfl) rfl ?_
 rintro _ w4 ⟨rfl, hR4, hk4, hz4⟩
 refine Zoa rfl rfl<|Ze<|Zs<|Zr<|Zom rfl rfl<|Zom rfl rfl ?_
 refine X.opPRV (vs := [_]) rfl (hP _ _ (((hk1.trans hk2).trans hk3).trans hk4) hR4) X.wN rfl hG rfl (fun b5 hb5 => ?_) (fun hb5 => ?_)
 ·rintro v5 w5 ⟨hv5, hR5, hx5⟩
  have hx5' := hx5.size
  obtain ⟨Ar, cr, hr1, hB5, hr2, hr3, hr4, hr5⟩ := hR5
  refine Zc (X.storeE Zs90 ((hB1.keep ((hk2.trans hk3).trans hk4)).ext hx5 zq36) rfl rfl rfl (hV1 _ _ _ _ hv5)) rfl ?_
  rintro _ w6 ⟨hB6, hx6, hz6⟩
  refine Ze<|Zs<|X.regionD (fun k => k = w.heap.size) 6 Zl Zl (fun w7 hk7 hz7 => ?_)
  refine ZDc 1 rfl Zl (X.move rfl)<|ZDc 2 rfl Zl (X.nilCk rfl)<|ZDc 3 rfl Zl (X.fldB (j := 1) Zu224 rfl rfl Zs3 rfl)<|ZD 4 rfl Zl (fun w' hk' => X.load1B Zi3 (((hB5.ext hx6 zq36).keep hk7).ext hk' zq36) rfl rfl) ?_
  refine X.dStep (i := 0) Zl rfl (X.dwN rfl) (X.load1B Zi90 (hB6.keep hk7) rfl rfl) (fun _ => Ext.refl _ _)<|X.dE (i := 5) Zl rfl (X.dwN rfl) (X.storeE Zs90 (hB6.keep hk7) rfl rfl rfl (hV1 _ _ _ _ hv5)) (by rintro _ w8 ⟨hB8, hx8, hz8⟩ _; exact hx8) ?_
  rintro _ w8 ⟨hB8, hx8, hz8⟩
  refine X.dE (i := 6) Zl rfl (X.dwN rfl) (X.storeE Zs3 (((((hB2.keep (hk3.trans hk4)).ext hx5 zq36).ext hx6 zq36).keep hk7).ext hx8 zq36) rfl rfl rfl rfl) (fun _ _ _ h => absurd h (by decide)) ?_
  rintro _ w9 ⟨hB9, hx9, hz9⟩
  refine X.dE (i := 7) Zl rfl (X.dwN rfl) (X.storeE Zs25 ((((((hB3.keep hk4).ext hx5 zq36).ext hx6 zq36).keep hk7).ext hx8 zq36).ext hx9 zq36) rfl rfl rfl rfl) (fun _ _ _ h => absurd h (by decide)) ?_
  rintro _ w10 ⟨hB10, hx10, hz10⟩
  refine Zdend Zl<|X.ret_unw<|X.unw_defer Zc159 (fun h => by cases h) (caught_0 _ _) ?_
  rintro m wz ⟨rfl, rfl⟩
  show X.Unw _ _ _ FrameMode.returning _ _ _ _
  refine X.unw_defer Tryz.call162 (fun h => by cases h) (X.DCall.of_ret (zero0_tup _ _ _ _ hB10)) ?_
  rintro m wz ⟨rfl, vz, rfl⟩
  show X.Unw _ _ _ FrameMode.returning _ _ _ _
  refine X.unwR3 Tryz.func127 Tryz.results127 (X.ResOk.cell rfl (X.lv1 Zi90 ((hB8.ext hx9 zq36).ext hx10 zq36) rfl)) (X.ResOk.cell rfl (X.lv1 Zi3 (hB9.ext hx10 zq36) rfl)) (X.ResOk.cell rfl (X.lv1 Zi25 hB10 rfl)) ?_
  refine ⟨?_, (((((((((hk1.trans hk2).trans hk3).trans hk4).step hx5 zq34).step hx6 zq34).trans hk7).step hx8 zq34).step hx9 zq34).step hx10 zq34)⟩
  rw [hb5]
  obtain ⟨a5, ys5⟩ := b5
  exact ⟨v5, w4, rfl, hV2 _ _ _ _ _ _ (hV2 _ _ _ _ _ _ (hV2 _ _ _ _ _ _ (hV2 _ _ _ _ _ _ (hV2 _ _ _ _ _ _ hv5 hx6 zq31) hk7 zq31) hx8 zq31) hx9 zq31) hx10 zq31, (((hk1.trans hk2).trans hk3).trans hk4), by omega⟩
 ·rintro w5 hx5
  have hx5' := hx5.size
  refine X.unw_defer Zc159 (fun h => by cases h) (caught_1 _ _ _ ((hB3.keep hk4).ext hx5 zq36)) ?_
  rintro m wz ⟨rfl, hBz, hxz⟩
  have hxz' := hxz.size
  show X.Unw _ _ _ FrameMode.returning _ _ _ _
  refine X.unw_defer Tryz.call162 (fun h => by cases h) (X.DCall.of_ret (zero1_tup _ _ _ _ _ _ hBz (((hB1.keep ((hk2.trans hk3).trans hk4)).ext hx5 zq36).ext hxz zq36) (((hB2.keep (hk3.trans hk4)).ext hx5 zq36).ext hxz zq36) Zz Zz Zz)) ?_
  rintro m wq ⟨rfl, vq, hq1, hq2, hq3, hq4⟩
  show X.Unw _ _ _ FrameMode.returning _ _ _ _
  refine X.unwR3 Tryz.func127 Tryz.results127 (X.ResOk.cell rfl (X.lv1 Zi90 hq2 rfl)) (X.ResOk.cell rfl (X.lv1 Zi3 hq3 rfl)) (X.ResOk.cell rfl (X.lv1 Zi25 hq1 rfl)) ?_
  refine ⟨?_, ((((((hk1.trans hk2).trans hk3).trans hk4).step hx5 zq34).step hxz zq34).step hq4 zq34)⟩
  rw [hb5]
theorem mineV1 {α : Type} {K : Kd α} {e : TypeId} {S : Nat → Prop} {w : World} {v : Value} {l : List α} (h : Mine K e S 0 0 w v l) : v.oneCell' = true := by
  obtain ⟨A, c, rfl, _⟩ := h.slice; rfl
theorem takeKey_c {A : Option Addr} {n c : Nat} {xs : List UInt8} (w : World) (hs : Sl KB 0 w.heap.size w A n xs) (hnc : n ≤ c) (hn : n ≤ 1000000) :
    Ret Tryz.prog 127 #[.slice A n c, .func (.func 128) #[] #[]] w fun r w' => ∃ v, r = .tuple #[v, .int .i64 (if (pFrom xs).isSome then (n : Int) else 0), .int .i64 (if (pFrom xs).isSome then 0 else 30)] ∧ Mine KV 88 (fun k => w.heap.size ≤ k) 0 0 w' v ((pFrom xs).getD []) ∧ Keep w w' := by
  refine (take_tup (fun xs => (pFrom xs).map fun l => (l, [])) (fun wb a v w1 => Mine KV 88 (fun k => wb.heap.size ≤ k) 0 0 w1 v a ∧ (∀ u ∈ a, okV u) ∧ isT a = true) 128 [] Tryz.call128 xs A n c w hs hnc hn (fun wb a v w1 h => mineV1 h.1)
    (fun wb a v w1 w2 U h x hU => ⟨h.1.ext x (fun k _ hk => by omega) (fun k hk hu => by have := hU k hu; omega), h.2⟩) (fun w' rb hk hR => fromKey1_c rb rb n xs w' hR)).mono fun r w' h => ?_
  obtain ⟨h, hk⟩ := h
  cases hp : pFrom xs with
  | none =>
    simp only [hp, Option.map_none] at h
    exact ⟨_, h, Mine.nil _ _ _ _ _ _, hk⟩
  | some l =>
    simp only [hp, Option.map_some] at h
    obtain ⟨v, wb, h1, h2, h3, _⟩ := h
    exact ⟨v, by rw [h1]; simp, h2.1.mono (fun k _ hk' => Nat.le_trans h3.size hk'), hk⟩
theorem FromKey_c {A : Option Addr} {n c : Nat} {xs : List UInt8} (w : World) (hs : Sl KB 0 w.heap.size w A n xs) (hnc : n ≤ c) (hn : n ≤ 1000000) :
    Ret Tryz.prog 83 #[.slice A n c] w fun r w' => ∃ v, r = .tuple #[v, .int .i64 (if (pFrom xs).isSome then 0 else 30)] ∧ Mine KV 88 (fun k => w.heap.size ≤ k) 0 0 w' v ((pFrom xs).getD []) ∧ Keep w w' := by
 refine X.enter Tryz.func83 rfl Tryz.ntmps83 rfl<|Zs<|Zr<|Zoa rfl rfl<|Zoa rfl rfl<|Ze<|Zs<|Zr<|Zoms rfl rfl<|Zc (X.callE (takeKey_c _ hs hnc hn) Tryz.call127 rfl rfl) rfl ?_
 rintro _ w1 ⟨v1, rfl, hM1, hk1⟩
 have hk1' := hk1.size
 refine Zom rfl rfl<|Zo (X.extr rfl rfl) rfl<|Zo (X.extr rfl rfl) rfl<|Zo (X.extr rfl rfl) rfl<|Zoa rfl rfl<|Zoai rfl rfl<|Zoai rfl rfl<|Ze<|Zs<|Zr<|Zom rfl rfl<|Zomi rfl rfl<|Zoa rfl rfl<|Zoai rfl rfl<|Ze<|X.ret2 (v2 := (.int .i64 _)) Tryz.func83 Tryz.results83 rfl rfl ?_
 exact ⟨_, rfl, hM1, hk1⟩
theorem pKeys_more : ∀ (n m : Nat) (xs : List UInt8), xs.length ≤ n → xs.length ≤ m → pKeys n xs = pKeys m xs := by
  intro n
  induction n with
  | zero =>
    intro m xs h _
    have : xs = [] := List.eq_nil_of_length_eq_zero Zz
    subst this
    cases m <;> rfl
  | succ n ih =>
    intro m xs h hm
    cases xs with
    | nil => cases m <;> rfl
    | cons c xs =>
      simp only [List.length_cons] at h hm
      obtain ⟨m', rfl⟩ : ∃ m', m = m' + 1 := ⟨m - 1, by omega⟩
      rw [pKeys, pKeys]
      cases hk : pKey (c :: xs) with
      | none => rfl
      | some b =>
        obtain ⟨v, ys⟩ := b
        have := pKey_lt hk
        simp only [List.length_cons] at this
        dsimp only at this ⊢
        rw [ih m' ys Zz Zz]
def pAll (xs : List UInt8) : Option (List VAL) := pKeys xs.length xs
theorem pAll_cons {xs : List UInt8} {v : VAL} {ys : List UInt8} (h : pKey xs = some (v, ys)) : pAll xs = (pAll ys).map fun l => v :: l := by
  have hlt := pKey_lt h
  cases xs with
  | nil => cases h
  | cons c xs =>
    rw [pAll, List.length_cons, pKeys, h]
    dsimp only
    simp only [List.length_cons] at hlt
    rw [pAll, pKeys_more xs.length ys.length ys Zz (Nat.le_refl _)]
theorem pFrom_some {l : List UInt8} {s : List VAL} (h : pAll l = some s) : pFrom l = if isT s then some s else none := by
  have e : pKeys l.length l = some s := h
  rw [pFrom, e]
theorem takeCnt1_c (hi rb T : Nat) (xs : List UInt8) (w : World) (hr : Rd w hi rb T xs) : PP 133 #[.pointer (some ⟨rb, 0, none⟩)] w hi rb T (pCnt xs) (fun a v w' => ∃ u, v = .agg #[u, .int .i64 a.2] ∧ Mine KV 88 (fun k => w.heap.size ≤ k) 0 0 w' u a.1 ∧ (∀ z ∈ a.1, okV z) ∧ a.1.length ≤ 8 ∧ okI a.2) := by
 have hrl := hr.lt
 refine X.enter Zf133 rfl Tryz.ntmps133 rfl<|Zs<|Zr<|Zc (X.allocE Zv92 rfl) rfl ?_
 rintro _ w1 ⟨rfl, hB1, hk1, hz1⟩
 refine Ze<|Zs<|Zr<|Zom rfl rfl<|X.opPR (tuple_c hi rb T _ _ (hr.keep hk1)) X.wN rfl Tryz.call134 rfl (fun b2 hb2 => ?_) (fun hb2 => ?_)
 ·rintro v2 w2 ⟨⟨hM2, ho2, hn2⟩, hR2, hx2⟩
  have hx2' := hx2.size
  obtain ⟨a2, ys2⟩ := b2
  simp only at hR2 hn2
  simp only at hM2 ho2
  refine Zoa rfl rfl<|Ze<|Zs<|Zr<|Zom rfl rfl<|Zom rfl rfl<|X.opPR (whole_c hi rb T _ _ hR2) X.wN rfl Tryz.call135 rfl (fun b3 hb3 => ?_) (fun hb3 => ?_)
  ·rintro _ w3 ⟨⟨rfl, hn3⟩, hR3, hx3⟩
   have hx3' := hx3.size
   obtain ⟨a3, ys3⟩ := b3
   simp only at hR3 hn3
   have q3 := (hM2.ext hx3 zq36 zq36)
   have q3' := q3.slice
   obtain ⟨Az, cz, rfl, hcz, hlz⟩ := q3'
   refine Zo (X.buildB (vs := [(0, .slice Az a2.length cz), (1, .int .i64 a3)]) (cs := #[.slice Az a2.length cz, .int .i64 a3]) rfl Zl) rfl<|Zc (X.storeNE Zs92 ((hB1.ext hx2 zq36).ext hx3 zq36) rfl rfl rfl rfl (fun u hu => by simp at hu; rcases hu with rfl | rfl <;> rfl)) rfl ?_
   rintro _ w4 ⟨hB4, hx4, hz4⟩
   refine Ze ?_
   refine X.ret_unw (X.unwR1 Zf133 Tryz.results133 (X.ResOk.cell rfl (X.lvN Zi92 Zs92 hB4 rfl)) ?_)
   rw [pCnt, hb2]
   dsimp only
   rw [hb3]
   exact ⟨_, rfl, ⟨_, rfl, Mine.mono (T := fun k => w.heap.size ≤ k) ((hM2.ext hx3 zq36 zq36).ext hx4 zq36 zq36) (fun k h1 h2 => by (try simp only [] at *); omega), ho2, hn2, hn3⟩, (hR3.ext hx4 zq36), (Ext.andThen (Ext.andThen (Ext.andThen (Ext.andThen (Ext.refl (fun k => k = rb) _) hk1 zq30) hx2 zq30) hx3 zq30) hx4 zq30)⟩
  ·rintro w3 hx3
   have hx3' := hx3.size
   refine X.unw_pan Zf133 ?_
   first
   | (rw [pCnt, hb2]; exact ⟨rfl, (Ext.andThen (Ext.andThen (Ext.andThen (Ext.refl (fun k => k = rb) _) hk1 zq30) hx2 zq30) hx3 zq30)⟩)
   | (rw [pCnt, hb2]; dsimp only; rw [hb3]; exact ⟨rfl, (Ext.andThen (Ext.andThen (Ext.andThen (Ext.refl (fun k => k = rb) _) hk1 zq30) hx2 zq30) hx3 zq30)⟩)
 ·rintro w2 hx2
  have hx2' := hx2.size
  refine X.unw_pan Zf133 ?_
  first
  | (rw [pCnt, hb2]; exact ⟨rfl, (Ext.andThen (Ext.andThen (Ext.refl (fun k => k = rb) _) hk1 zq30) hx2 zq30)⟩)
  | (rw [pCnt, hb2]; dsimp only; rw [hb3]; exact ⟨rfl, (Ext.andThen (Ext.andThen (Ext.refl (fun k => k = rb) _) hk1 zq30) hx2 zq30)⟩)
theorem zero0_cnt (be bx bn : Nat) (w : World) (hE : Blk w be [.int .i64 0] 25) : Ret Tryz.prog 168 #[.pointer (some ⟨be, 0, none⟩), .pointer (some ⟨bx, 0, none⟩), .pointer (some ⟨bn, 0, none⟩)] w fun _ w' => w' = w := by
 refine X.enter Zf168 rfl Tryz.ntmps168 rfl<|Zs<|Zr<|Zo (X.load1B Zi25 hE rfl rfl) rfl<|X.opP X.wN rfl rfl (X.neI rfl rfl) (fun h5 => ?_) (fun h5 => ?_)
 ·exact absurd rfl h5
 ·refine Ze<|Zf rfl<|Zk<|X.end0 Zf168 Tryz.results168 ?_
  rfl
theorem zero1_cnt (be bx bn : Nat) (vs : List Value) (k : Value) (w : World) (hE : Blk w be [.int .i64 30] 25) (hX : Blk w bx vs 92) (hvl : vs.length = 2) (hN : Blk w bn [k] 3) (h1 : bx ≠ be) (h2 : bn ≠ be) (h3 : bn ≠ bx) : Ret Tryz.prog 168 #[.pointer (some ⟨be, 0, none⟩), .pointer (some ⟨bx, 0, none⟩), .pointer (some ⟨bn, 0, none⟩)] w
    fun _ w' => Blk w' be [.int .i64 30] 25 ∧ Blk w' bx [.slice none 0 0, .int .i64 0] 92 ∧ Blk w' bn [.int .i64 0] 3 ∧ Ext (fun k => k = bx ∨ k = bn) w w' := by
 have hlx := hX.lt
 have hle := hE.lt
 have hln := hN.lt
 refine X.enter Zf168 rfl Tryz.ntmps168 rfl<|Zs<|Zr<|Zo (X.load1B Zi25 hE rfl rfl) rfl<|X.opP X.wN rfl rfl (X.neI rfl rfl) (fun h5 => ?_) (fun h5 => ?_)
 ·refine Ze<|Zt rfl<|Zs<|Zr<|Zc (X.allocE Zv92 rfl) rfl ?_
  rintro _ w1 ⟨rfl, hB1, hk1, hz1⟩
  refine Ze<|Zr<|Zo (X.loadNB Zi92 Zs92 hB1 rfl rfl rfl) rfl<|Zc (X.storeNE Zs92 (hX.keep hk1) rfl rfl rfl hvl (fun u hu => by simp at hu; rcases hu with rfl | rfl <;> rfl)) rfl ?_
  rintro _ w2 ⟨hB2, hx2, hz2⟩
  refine Zc (X.storeE Zs3 ((hN.keep hk1).ext hx2 zq36) rfl rfl rfl rfl) rfl ?_
  rintro _ w3 ⟨hB3, hx3, hz3⟩
  refine Ze<|X.end0 Zf168 Tryz.results168 ?_
  exact ⟨(((hE.keep hk1).ext hx2 zq36).ext hx3 zq36), (hB2.ext hx3 zq36), hB3, (Ext.andThen (Ext.andThen (Ext.andThen (Ext.refl (fun k => k = bx ∨ k = bn) _) hk1 zq30) hx2 zq30) hx3 zq30)⟩
 ·exact absurd (by decide) h5
theorem take_cnt {α : Type} (p : List UInt8 → Option (α × List UInt8)) (V : World → α → Value → World → Prop) (G : Nat) (cap : List Value) (hG : ∀ args w, (callFunc G args).run Tryz.prog w = .ok (.enter G args) w) (xs : List UInt8) (A : Option Addr) (n c : Nat) (w : World) (hs : Sl KB 0 w.heap.size w A n xs) (hnc : n ≤ c) (hn : n ≤ 1000000)
    (hV1 : ∀ wb a v w1, V wb a v w1 → ∃ vs : List Value, v = .agg vs.toArray ∧ vs.length = 2 ∧ ∀ u, u ∈ vs → u.oneCell' = true) (hV2 : ∀ wb a v w1 w2 U, V wb a v w1 → Ext U w1 w2 → (∀ k, U k → k < wb.heap.size) → V wb a v w2)
    (hP : ∀ w' rb, Keep w w' → Rd w' rb rb n xs → PP G ([Value.pointer (some ⟨rb, 0, none⟩)] ++ cap).toArray w' rb rb n (p xs) (V w')) :
    Ret Tryz.prog 132 #[.slice A n c, .func (.func G) #[] cap.toArray] w fun r w' => (match p xs with
      | some (a, ys) => ∃ v wb, r = .tuple #[v, .int .i64 ((n : Int) - (ys.length : Int)), .int .i64 0] ∧ V wb a v w' ∧ Keep w wb ∧ wb.heap.size ≤ w'.heap.size
      | none => r = .tuple #[.agg #[.slice none 0 0, .int .i64 0], .int .i64 0, .int .i64 30]) ∧ Keep w w' := by
 have hl := hs.len
 refine X.enter Tryz.func132 rfl Tryz.ntmps132 rfl<|Zs<|Zr<|Zc (X.allocE Zv92 rfl) rfl ?_
 rintro _ w1 ⟨rfl, hB1, hk1, hz1⟩
 refine Zc (X.allocE Zv3 rfl) rfl ?_
 rintro _ w2 ⟨rfl, hB2, hk2, hz2⟩
 refine Zc (X.allocE Zv25 rfl) rfl ?_
 rintro _ w3 ⟨rfl, hB3, hk3, hz3⟩
 refine Ze<|Zs<|Zr<|Zo (X.mkFunc rfl) rfl<|X.opDefer X.wN rfl rfl<|Ze<|Zs<|Zr<|X.opDefer X.wN rfl rfl<|Ze<|Zs<|Zr<|Zoms rfl rfl<|Zc (X.callE (over_c _ ((hs.keep ((hk1.trans hk2).trans hk3)).wide (Nat.le_refl _) Zz) hnc hn) Zc160 rfl rfl) rfl ?_
 rintro _ w4 ⟨rfl, hR4, hk4, hz4⟩
 refine Zoa rfl rfl<|Ze<|Zs<|Zr<|Zom rfl rfl<|Zom rfl rfl ?_
 refine X.opPRV (vs := [_]) rfl (hP _ _ (((hk1.trans hk2).trans hk3).trans hk4) hR4) X.wN rfl hG rfl (fun b5 hb5 => ?_) (fun hb5 => ?_)
 ·rintro v5 w5 ⟨hv5, hR5, hx5⟩
  have hx5' := hx5.size
  obtain ⟨Ar, cr, hr1, hB5, hr2, hr3, hr4, hr5⟩ := hR5
  have hvz := hV1 _ _ _ _ hv5
  obtain ⟨vs, rfl, hvl, hvo⟩ := hvz
  refine Zc (X.storeNE Zs92 ((hB1.keep ((hk2.trans hk3).trans hk4)).ext hx5 zq36) rfl rfl hvl rfl hvo) rfl ?_
  rintro _ w6 ⟨hB6, hx6, hz6⟩
  refine Ze<|Zs<|X.regionD (fun k => k = w.heap.size) 6 Zl Zl (fun w7 hk7 hz7 => ?_)
  refine ZDc 1 rfl Zl (X.move rfl)<|ZDc 2 rfl Zl (X.nilCk rfl)<|ZDc 3 rfl Zl (X.fldB (j := 1) Zu224 rfl rfl Zs3 rfl)<|ZD 4 rfl Zl (fun w' hk' => X.load1B Zi3 (((hB5.ext hx6 zq36).keep hk7).ext hk' zq36) rfl rfl) ?_
  refine X.dStep (i := 0) Zl rfl (X.dwN rfl) (X.loadNB (vs := vs) Zi92 Zs92 (hB6.keep hk7) rfl (by rw [List.drop_zero, List.take_of_length_le Zz]) hvl) (fun _ => Ext.refl _ _) ?_
  refine X.dE (i := 5) Zl rfl (X.dwN rfl) (X.storeNE Zs92 (hB6.keep hk7) rfl rfl hvl hvl hvo) (by rintro _ w8 ⟨hB8, hx8, hz8⟩ _; exact hx8) ?_
  rintro _ w8 ⟨hB8, hx8, hz8⟩
  refine X.dE (i := 6) Zl rfl (X.dwN rfl) (X.storeE Zs3 (((((hB2.keep (hk3.trans hk4)).ext hx5 zq36).ext hx6 zq36).keep hk7).ext hx8 zq36) rfl rfl rfl rfl) (fun _ _ _ h => absurd h (by decide)) ?_
  rintro _ w9 ⟨hB9, hx9, hz9⟩
  refine X.dE (i := 7) Zl rfl (X.dwN rfl) (X.storeE Zs25 ((((((hB3.keep hk4).ext hx5 zq36).ext hx6 zq36).keep hk7).ext hx8 zq36).ext hx9 zq36) rfl rfl rfl rfl) (fun _ _ _ h => absurd h (by decide)) ?_
  rintro _ w10 ⟨hB10, hx10, hz10⟩
  refine Zdend Zl<|X.ret_unw<|X.unw_defer Zc159 (fun h => by cases h) (caught_0 _ _) ?_
  rintro m wz ⟨rfl, rfl⟩
  show X.Unw _ _ _ FrameMode.returning _ _ _ _
  refine X.unw_defer Tryz.call168 (fun h => by cases h) (X.DCall.of_ret (zero0_cnt _ _ _ _ hB10)) ?_
  rintro m wz ⟨rfl, vz, rfl⟩
  show X.Unw _ _ _ FrameMode.returning _ _ _ _
  refine X.unwR3 Tryz.func132 Tryz.results132 (X.ResOk.cell rfl (X.lvN Zi92 Zs92 ((hB8.ext hx9 zq36).ext hx10 zq36) hvl)) (X.ResOk.cell rfl (X.lv1 Zi3 (hB9.ext hx10 zq36) rfl)) (X.ResOk.cell rfl (X.lv1 Zi25 hB10 rfl)) ?_
  refine ⟨?_, (((((((((hk1.trans hk2).trans hk3).trans hk4).step hx5 zq34).step hx6 zq34).trans hk7).step hx8 zq34).step hx9 zq34).step hx10 zq34)⟩
  rw [hb5]
  obtain ⟨a5, ys5⟩ := b5
  exact ⟨_, w4, rfl, hV2 _ _ _ _ _ _ (hV2 _ _ _ _ _ _ (hV2 _ _ _ _ _ _ (hV2 _ _ _ _ _ _ (hV2 _ _ _ _ _ _ hv5 hx6 zq31) hk7 zq31) hx8 zq31) hx9 zq31) hx10 zq31, (((hk1.trans hk2).trans hk3).trans hk4), by omega⟩
 ·rintro w5 hx5
  have hx5' := hx5.size
  refine X.unw_defer Zc159 (fun h => by cases h) (caught_1 _ _ _ ((hB3.keep hk4).ext hx5 zq36)) ?_
  rintro m wz ⟨rfl, hBz, hxz⟩
  have hxz' := hxz.size
  show X.Unw _ _ _ FrameMode.returning _ _ _ _
  refine X.unw_defer Tryz.call168 (fun h => by cases h) (X.DCall.of_ret (zero1_cnt _ _ _ _ _ _ hBz (((hB1.keep ((hk2.trans hk3).trans hk4)).ext hx5 zq36).ext hxz zq36) rfl (((hB2.keep (hk3.trans hk4)).ext hx5 zq36).ext hxz zq36) Zz Zz Zz)) ?_
  rintro m wq ⟨rfl, vq, hq1, hq2, hq3, hq4⟩
  show X.Unw _ _ _ FrameMode.returning _ _ _ _
  refine X.unwR3 Tryz.func132 Tryz.results132 (X.ResOk.cell rfl (X.lvN Zi92 Zs92 hq2 rfl)) (X.ResOk.cell rfl (X.lv1 Zi3 hq3 rfl)) (X.ResOk.cell rfl (X.lv1 Zi25 hq1 rfl)) ?_
  refine ⟨?_, ((((((hk1.trans hk2).trans hk3).trans hk4).step hx5 zq34).step hxz zq34).step hq4 zq34)⟩
  rw [hb5]
def cnt {α : Type} (o : Option (α × List UInt8)) (n : Nat) : Int := match o with
  | some b => (n : Int) - (b.2.length : Int)
  | none => 0
def code {α : Type} (o : Option (α × List UInt8)) : Int := if o.isSome then 0 else 30
def told {α : Type} (o : Option (α × List UInt8)) (z : α) : α := match o with
  | some b => b.1
  | none => z
theorem takeNum1_c (hi rb T : Nat) (xs : List UInt8) (w : World) (hr : Rd w hi rb T xs) : PP 156 #[.pointer (some ⟨rb, 0, none⟩)] w hi rb T (pNum 0 0 xs) (fun a v _ => v = .int .u64 ((a : Nat) : Int)) := by
 have hrl := hr.lt
 refine X.enter Tryz.func156 rfl Tryz.ntmps156 rfl<|Zs<|Zr<|Zoa rfl rfl<|Ze<|Zs<|Zr<|Zom rfl rfl<|X.opPR (num_c hi rb T _ _ hr) X.wN rfl Tryz.call157 rfl (fun b1 hb1 => ?_) (fun hb1 => ?_)
 ·rintro _ w1 ⟨⟨rfl, hn1⟩, hR1, hx1⟩
  have hx1' := hx1.size
  refine Zoau rfl rfl<|Ze<|X.ret1 (v := (.int .u64 _)) Tryz.func156 Tryz.results156 rfl ?_
  rw [hb1]
  exact ⟨_, rfl, rfl, hR1, (Ext.andThen (Ext.refl (fun k => k = rb) _) hx1 zq30)⟩
 ·rintro w1 hx1
  have hx1' := hx1.size
  refine X.unw_pan Tryz.func156 ?_
  rw [hb1]
  exact ⟨rfl, (Ext.andThen (Ext.refl (fun k => k = rb) _) hx1 zq30)⟩
theorem takeText1_c (most : Int) (hmo : okI most) (bm : Nat) (hi rb T : Nat) (xs : List UInt8) (w : World) (hr : Rd w hi rb T xs) (hB : Blk w bm [.int .i64 most] 3) : PP 125 #[.pointer (some ⟨rb, 0, none⟩), .pointer (some ⟨bm, 0, none⟩)] w hi rb T (pText most xs) (fun a v w' => Mine KB 5 (fun k => w.heap.size ≤ k) 0 0 w' v a) := by
 have hrl := hr.lt
 refine X.enter Tryz.func125 rfl Tryz.ntmps125 rfl<|Zs<|Zr<|Zoa rfl rfl<|Ze<|Zs<|Zr<|Zom rfl rfl<|Zo (X.load1B Zi3 hB rfl rfl) rfl<|X.opPR (text_c most hmo hi rb T _ _ hr) X.wN rfl Tryz.call126 rfl (fun b1 hb1 => ?_) (fun hb1 => ?_)
 ·rintro v1 w1 ⟨hM1, hR1, hx1⟩
  have hx1' := hx1.size
  refine Zoa rfl rfl<|Ze<|X.ret1 Tryz.func125 Tryz.results125 rfl ?_
  rw [hb1]
  exact ⟨_, rfl, hM1, hR1, (Ext.andThen (Ext.refl (fun k => k = rb) _) hx1 zq30)⟩
 ·rintro w1 hx1
  have hx1' := hx1.size
  refine X.unw_pan Tryz.func125 ?_
  rw [hb1]
  exact ⟨rfl, (Ext.andThen (Ext.refl (fun k => k = rb) _) hx1 zq30)⟩
theorem tNum_c {A : Option Addr} {n c : Nat} {xs : List UInt8} (w : World) (hs : Sl KB 0 w.heap.size w A n xs) (hnc : n ≤ c) (hn : n ≤ 1000000) :
    Ret Tryz.prog 155 #[.slice A n c, .func (.func 156) #[] #[]] w fun r w' => r = .tuple #[.int .u64 ((told (pNum 0 0 xs) 0 : Nat) : Int), .int .i64 (cnt (pNum 0 0 xs) n), .int .i64 (code (pNum 0 0 xs))] ∧ Keep w w' := by
  refine (take_u64 (pNum 0 0) (fun _ a v _ => v = .int .u64 ((a : Nat) : Int)) 156 [] Tryz.call156 xs A n c w hs hnc hn (fun wb a v w1 h => by rw [h]; rfl) (fun wb a v w1 w2 U h x hU => h) (fun w' rb hk hR => takeNum1_c rb rb n xs w' hR)).mono fun r w' h => ?_
  obtain ⟨h, hk⟩ := h
  cases hp : pNum 0 0 xs with
  | none => rw [hp] at h; exact ⟨h, hk⟩
  | some b => obtain ⟨a, ys⟩ := b; rw [hp] at h; obtain ⟨v, wb, h1, h2, _⟩ := h; subst h2; exact ⟨h1, hk⟩
theorem tCnt_c {A : Option Addr} {n c : Nat} {xs : List UInt8} (w : World) (hs : Sl KB 0 w.heap.size w A n xs) (hnc : n ≤ c) (hn : n ≤ 1000000) :
    Ret Tryz.prog 132 #[.slice A n c, .func (.func 133) #[] #[]] w fun r w' => ∃ v, r = .tuple #[.agg #[v, .int .i64 (told (pCnt xs) ([], 0)).2], .int .i64 (cnt (pCnt xs) n), .int .i64 (code (pCnt xs))] ∧ Mine KV 88 (fun k => w.heap.size ≤ k) 0 0 w' v (told (pCnt xs) ([], 0)).1 ∧ Keep w w' := by
  refine (take_cnt pCnt (fun wb a v w1 => ∃ u, v = .agg #[u, .int .i64 a.2] ∧ Mine KV 88 (fun k => wb.heap.size ≤ k) 0 0 w1 u a.1 ∧ (∀ z ∈ a.1, okV z) ∧ a.1.length ≤ 8 ∧ okI a.2) 133 [] Tryz.call133 xs A n c w hs hnc hn
    (fun wb a v w1 ⟨u, e, h, _⟩ => ⟨[u, .int .i64 a.2], e, rfl, fun z hz => by simp at hz; rcases hz with rfl | rfl; exact mineV1 h; rfl⟩)
    (fun wb a v w1 w2 U ⟨u, e, h, h'⟩ x hU => ⟨u, e, h.ext x (fun k _ hk => by omega) (fun k hk hu => by have := hU k hu; omega), h'⟩) (fun w' rb hk hR => takeCnt1_c rb rb n xs w' hR)).mono fun r w' h => ?_
  obtain ⟨h, hk⟩ := h
  cases hp : pCnt xs with
  | none => rw [hp] at h; exact ⟨_, h, Mine.nil _ _ _ _ _ _, hk⟩
  | some b => obtain ⟨a, ys⟩ := b; rw [hp] at h; obtain ⟨v, wb, h1, ⟨u, e, h2, _⟩, h3, _⟩ := h; subst e; exact ⟨u, h1, h2.mono (fun k _ hk' => Nat.le_trans h3.size hk'), hk⟩
theorem TakeNum_c {A : Option Addr} {n c : Nat} {xs : List UInt8} (w : World) (hs : Sl KB 0 w.heap.size w A n xs) (hnc : n ≤ c) (hn : n ≤ 1000000) : Ret Tryz.prog 123 #[.slice A n c] w fun r w' => r = .tuple #[.int .u64 ((told (pNum 0 0 xs) 0 : Nat) : Int), .int .i64 (cnt (pNum 0 0 xs) n), .int .i64 (code (pNum 0 0 xs))] ∧ Keep w w' := by
 refine X.enter Tryz.func123 rfl Tryz.ntmps123 rfl<|Zs<|Zr<|Zoa rfl rfl<|Zoa rfl rfl<|Zoa rfl rfl<|Ze<|Zs<|Zr<|Zoms rfl rfl<|Zc (X.callE (tNum_c _ hs hnc hn) Tryz.call155 rfl rfl) rfl ?_
 rintro _ w1 ⟨rfl, hk1⟩
 have hk1' := hk1.size
 refine Zo (X.extr rfl rfl) rfl<|Zo (X.extr rfl rfl) rfl<|Zo (X.extr rfl rfl) rfl<|Zoau rfl rfl<|Zoai rfl rfl<|Zoai rfl rfl<|Ze<|X.ret3 (v1 := (.int .u64 _)) (v2 := (.int .i64 _)) (v3 := (.int .i64 _)) Tryz.func123 Tryz.results123 rfl rfl rfl ?_
 exact ⟨rfl, hk1⟩
theorem tText_c (most : Int) (hmo : okI most) (bm : Nat) {A : Option Addr} {n c : Nat} {xs : List UInt8} (w : World) (hB : Blk w bm [.int .i64 most] 3) (hs : Sl KB 0 w.heap.size w A n xs) (hnc : n ≤ c) (hn : n ≤ 1000000) :
    Ret Tryz.prog 124 #[.slice A n c, .func (.func 125) #[] #[.pointer (some ⟨bm, 0, none⟩)]] w fun r w' => ∃ v, r = .tuple #[v, .int .i64 (cnt (pText most xs) n), .int .i64 (code (pText most xs))] ∧ Mine KB 5 (fun k => w.heap.size ≤ k) 0 0 w' v (told (pText most xs) []) ∧ Keep w w' := by
  refine (take_row (pText most) (fun wb a v w1 => Mine KB 5 (fun k => wb.heap.size ≤ k) 0 0 w1 v a) 125 [.pointer (some ⟨bm, 0, none⟩)] Tryz.call125 xs A n c w hs hnc hn (fun wb a v w1 h => mineV1 h)
    (fun wb a v w1 w2 U h x hU => h.ext x (fun k _ hk => by omega) (fun k hk hu => by have := hU k hu; omega)) (fun w' rb hk hR => takeText1_c most hmo bm rb rb n xs w' hR (hB.keep hk))).mono fun r w' h => ?_
  obtain ⟨h, hk⟩ := h
  cases hp : pText most xs with
  | none => rw [hp] at h; exact ⟨_, h, Mine.nil _ _ _ _ _ _, hk⟩
  | some b => obtain ⟨a, ys⟩ := b; rw [hp] at h; obtain ⟨v, wb, h1, h2, h3, _⟩ := h; exact ⟨v, h1, h2.mono (fun k _ hk' => Nat.le_trans h3.size hk'), hk⟩
theorem TakeText_c (most : Int) (hmo : okI most) {A : Option Addr} {n c : Nat} {xs : List UInt8} (w : World) (hs : Sl KB 0 w.heap.size w A n xs) (hnc : n ≤ c) (hn : n ≤ 1000000) : Ret Tryz.prog 82 #[.slice A n c, .int .i64 most] w fun r w' => ∃ v, r = .tuple #[v, .int .i64 (cnt (pText most xs) n), .int .i64 (code (pText most xs))] ∧ Mine KB 5 (fun k => w.heap.size ≤ k) 0 0 w' v (told (pText most xs) []) ∧ Keep w w' := by
 refine X.enter Tryz.func82 rfl Tryz.ntmps82 rfl<|Zs<|Zr<|Zc (X.boxE rfl rfl) rfl ?_
 rintro _ w1 ⟨rfl, hB1, hk1, hz1⟩
 refine Zoa rfl rfl<|Zoa rfl rfl<|Zoa rfl rfl<|Ze<|Zs<|Zr<|Zoms rfl rfl<|Zo (X.mkFunc rfl) rfl<|Zc (X.callE (tText_c most hmo _ _ hB1 ((hs.keep hk1).wide (Nat.le_refl _) Zz) hnc hn) Tryz.call124 rfl rfl) rfl ?_
 rintro _ w2 ⟨v2, rfl, hM2, hk2⟩
 have hk2' := hk2.size
 refine Zo (X.extr rfl rfl) rfl<|Zo (X.extr rfl rfl) rfl<|Zo (X.extr rfl rfl) rfl<|Zoa rfl rfl<|Zoai rfl rfl<|Zoai rfl rfl<|Ze<|X.ret3 (v2 := (.int .i64 _)) (v3 := (.int .i64 _)) Tryz.func82 Tryz.results82 rfl rfl rfl ?_
 exact ⟨_, rfl, Mine.mono (T := fun k => w.heap.size ≤ k) hM2 (fun k h1 h2 => by (try simp only [] at *); omega), (hk1.trans hk2)⟩
theorem TakeCounted_c {A : Option Addr} {n c : Nat} {xs : List UInt8} (w : World) (hs : Sl KB 0 w.heap.size w A n xs) (hnc : n ≤ c) (hn : n ≤ 1000000) : Ret Tryz.prog 89 #[.slice A n c] w fun r w' => ∃ v, r = .tuple #[.agg #[v, .int .i64 (told (pCnt xs) ([], 0)).2], .int .i64 (cnt (pCnt xs) n), .int .i64 (code (pCnt xs))] ∧ Mine KV 88 (fun k => w.heap.size ≤ k) 0 0 w' v (told (pCnt xs) ([], 0)).1 ∧ Keep w w' := by
 refine X.enter Tryz.func89 rfl Tryz.ntmps89 rfl<|Zs<|Zr<|Zc (X.allocE Zv92 rfl) rfl ?_
 rintro _ w1 ⟨rfl, hB1, hk1, hz1⟩
 refine Zoa rfl rfl<|Zoa rfl rfl<|Ze<|Zs<|Zr<|Zoms rfl rfl<|Zc (X.callE (tCnt_c _ ((hs.keep hk1).wide (Nat.le_refl _) Zz) hnc hn) Tryz.call132 rfl rfl) rfl ?_
 rintro _ w2 ⟨v2, rfl, hM2, hk2⟩
 have hk2' := hk2.size
 refine Zo (X.extr rfl rfl) rfl<|Zo (X.extr rfl rfl) rfl<|Zo (X.extr rfl rfl) rfl<|Zc (X.storeNE Zs92 (hB1.keep hk2) rfl rfl rfl rfl (fun u hu => by simp at hu; rcases hu with rfl | rfl; exact mineV1 hM2; rfl)) rfl ?_
 rintro _ w3 ⟨hB3, hx3, hz3⟩
 refine Zoai rfl rfl<|Zoai rfl rfl<|Ze ?_
 refine X.ret_unw (X.unwR3 Tryz.func89 Tryz.results89 (X.ResOk.cell rfl (X.lvN Zi92 Zs92 hB3 rfl)) (show X.ResOk _ _ _ (.tmp 3) _ from rfl) (show X.ResOk _ _ _ (.tmp 4) _ from rfl) ?_)
 exact ⟨_, rfl, Mine.mono (T := fun k => w.heap.size ≤ k) (hM2.ext hx3 zq36 zq36) (fun k h1 h2 => by (try simp only [] at *); omega), ((hk1.trans hk2).step hx3 zq34)⟩
theorem pNum_back : ∀ (x i acc : Nat) (s : List UInt8), i ≤ 9 → x * 128 ^ i < 18446744073709551616 → (0 < i → 0 < x) → pNum i acc (numB x ++ s) = some (acc + x * 128 ^ i, s) := by
  intro x
  induction x using Nat.strongRecOn with
  | _ x ih =>
    intro i acc s hi hb h0
    obtain ⟨p1, p2, p3, p4⟩ := pow128 i hi
    have h9 : i = 9 → x ≤ 1 := by
      intro e
      have := p4 e
      rw [this] at hb
      omega
    rw [numB.eq_def]
    by_cases hx : x < 128
    · have hc : (UInt8.ofNat x).toNat = x := by rw [UInt8.toNat_ofNat']; omega
      rw [if_pos hx, List.singleton_append, pNum, hc, if_neg Zz, if_pos hx, Nat.mod_eq_of_lt hx]
    · have hc : (UInt8.ofNat (x % 128 + 128)).toNat = x % 128 + 128 := by rw [UInt8.toNat_ofNat']; omega
      have hx8 : i ≤ 8 := by omega
      rw [if_neg hx, List.cons_append, pNum, hc, if_neg Zz, if_neg Zz]
      have e1 : (x % 128 + 128) % 128 = x % 128 := by omega
      have e2 : x / 128 * 128 ^ (i + 1) + x % 128 * 128 ^ i = x * 128 ^ i := by
        rw [← p1, ← Nat.mul_assoc, Nat.mul_comm (x / 128 * 128 ^ i) 128, ← Nat.mul_assoc, ← Nat.add_mul, Nat.mul_comm 128]
        congr 1; omega
      rw [e1, ih (x / 128) Zz (i + 1) _ s Zz Zz (fun _ => by omega)]
      congr 2
      omega
theorem pNum_0 (x : Nat) (s : List UInt8) (h : x < 18446744073709551616) : pNum 0 0 (numB x ++ s) = some (x, s) := by
  have := pNum_back x 0 0 s Zz Zz (fun h => by omega)
  simpa using this
theorem pNum_just : ∀ (xs : List UInt8) (i acc : Nat) (b : Nat × List UInt8), pNum i acc xs = some b → ∃ d, b.1 = acc + d * 128 ^ i ∧ xs = numB d ++ b.2 ∧ (0 < i → 0 < d) := by
  intro xs
  induction xs with
  | nil => intro i acc b h; cases h
  | cons c xs ih =>
    intro i acc b h
    rw [pNum] at h
    split at h
    · cases h
    · rename_i hf
      have hc := c.toNat_lt
      split at h
      · rename_i hl
        cases h
        refine ⟨c.toNat, by rw [Nat.mod_eq_of_lt hl], ?_, fun h => by omega⟩
        rw [numB, if_pos hl, List.singleton_append, UInt8.ofNat_toNat]
      · rename_i hl
        obtain ⟨d, h1, h2, h3⟩ := ih _ _ _ h
        have hd := h3 Zz
        refine ⟨d * 128 + c.toNat % 128, ?_, ?_, fun _ => by omega⟩
        · rw [h1, Nat.add_mul, Nat.mul_assoc, Nat.mul_comm 128, ← Nat.pow_succ]; show _ = acc + (d * 128 ^ (i + 1) + _); omega
        · rw [numB, if_neg Zz, List.cons_append, show (d * 128 + c.toNat % 128) / 128 = d by omega, h2]
          congr 1
          apply UInt8.toNat_inj.1
          rw [UInt8.toNat_ofNat']; omega
theorem pNum_j {xs : List UInt8} {b : Nat × List UInt8} (h : pNum 0 0 xs = some b) : xs = numB b.1 ++ b.2 := by
  obtain ⟨d, h1, h2, _⟩ := pNum_just xs 0 0 b h
  rw [show b.1 = d by simpa using h1]; exact h2
theorem pNum_lt : ∀ (xs : List UInt8) (i acc : Nat) (b : Nat × List UInt8), i ≤ 9 → acc < 128 ^ i → pNum i acc xs = some b → b.1 < 18446744073709551616 := by
  intro xs
  induction xs with
  | nil => intro i acc b _ _ h; cases h
  | cons c xs ih =>
    intro i acc b hi ha h
    rw [pNum] at h
    split at h
    · cases h
    · rename_i hf
      obtain ⟨n1, n2, n3⟩ := num_bound c hi ha Zz
      split at h
      · cases h; exact n1
      · rename_i hl
        exact ih (i + 1) _ b (by have := n3 Zz; omega) n2 h
theorem unzig_zig (a : Nat) : (zig (unzig a)).toNat = a := by
  unfold unzig zig; split <;> split <;> omega
theorem pInt_just {xs : List UInt8} {b : Int × List UInt8} (h : pInt xs = some b) : xs = numB (zig b.1).toNat ++ b.2 ∧ okI b.1 := by
  rw [pInt] at h
  obtain ⟨q, hq, rfl⟩ := Option.map_eq_some_iff.1 h
  exact ⟨by rw [unzig_zig]; exact pNum_j hq, unzig_ok (pNum_lt xs 0 0 q Zz (by simp) hq)⟩
theorem pText_back (most : Int) (l s : List UInt8) (h1 : (l.length : Int) ≤ most) (h2 : l.length ≤ 1048576) : pText most (textB l ++ s) = some (l, s) := by
  rw [pText, textB, List.append_assoc, pNum_0 _ _ Zz]
  dsimp only
  rw [if_neg (by rw [List.length_append]; omega)]
  simp
theorem pText_just {most : Int} {xs : List UInt8} {b : List UInt8 × List UInt8} (h : pText most xs = some b) : xs = textB b.1 ++ b.2 ∧ (b.1.length : Int) ≤ most ∧ b.1.length ≤ 1048576 := by
  unfold pText at h
  split at h
  · cases h
  · rename_i a ys hq
    split at h
    · cases h
    · rename_i hf
      cases h
      have hj := pNum_j hq
      dsimp only at hj ⊢
      have hl : (ys.take a).length = a := by rw [List.length_take]; omega
      rw [textB, hl, List.append_assoc, List.take_append_drop]
      exact ⟨hj, by omega, by omega⟩
theorem sym_of (l : List UInt8) : (⟨l.toArray⟩ : ByteArray).data.toList = l := by simp
theorem arr_of (s : ByteArray) : (⟨s.data.toList.toArray⟩ : ByteArray) = s := by
  obtain ⟨⟨l⟩⟩ := s; rfl
theorem pVal_just {xs : List UInt8} {b : VAL × List UInt8} (h : pVal xs = some b) : xs = valB b.1 ++ b.2 ∧ isV b.1 = true ∧ okV b.1 := by
  cases xs with
  | nil => cases h
  | cons c xs =>
    rw [pVal] at h
    split at h
    · rename_i hc
      obtain ⟨q, hq, rfl⟩ := Option.map_eq_some_iff.1 h
      obtain ⟨h1, h2⟩ := pInt_just hq
      have hc1 : c = 1 := UInt8.toNat_inj.1 hc
      refine ⟨?_, by simp [isV], by simp [okI], h2, by simp [ByteArray.size]⟩
      rw [valB, if_pos rfl, hc1, List.cons_append, ← h1]
    · split at h
      · rename_i hc
        obtain ⟨q, hq, rfl⟩ := Option.map_eq_some_iff.1 h
        obtain ⟨h1, h2, h3⟩ := pText_just hq
        have hc1 : c = 2 := UInt8.toNat_inj.1 hc
        have hs : (⟨q.1.toArray⟩ : ByteArray).size = q.1.length := by show q.1.toArray.size = _; simp
        refine ⟨?_, decide_eq_true (.inr ⟨rfl, rfl, by dsimp only; rw [hs]; omega⟩), by simp [okI], by simp [okI], by dsimp only; rw [hs]; omega⟩
        rw [valB, if_neg (by simp), hc1, List.cons_append, sym_of, ← h1]
      · cases h
theorem pVals_just : ∀ (n : Nat) (xs : List UInt8) (b : List VAL × List UInt8), pVals n xs = some b → xs = b.1.flatMap valB ++ b.2 ∧ b.1.length = n ∧ ∀ v ∈ b.1, isV v = true ∧ okV v := by
  intro n
  induction n with
  | zero => intro xs b h; cases h; exact ⟨rfl, rfl, by simp⟩
  | succ n ih =>
    intro xs b h
    rw [pVals] at h
    split at h
    · cases h
    · rename_i v ys hv
      obtain ⟨q, hq, rfl⟩ := Option.map_eq_some_iff.1 h
      obtain ⟨h1, h2, h3⟩ := pVal_just hv
      obtain ⟨h4, h5, h6⟩ := ih ys q hq
      dsimp only at h1 h2 h3 ⊢
      refine ⟨by rw [h1, List.flatMap_cons, List.append_assoc, ← h4], by rw [List.length_cons, h5], fun u hu => ?_⟩
      rcases List.mem_cons.1 hu with rfl | hu
      · exact ⟨h2, h3⟩
      · exact h6 u hu
theorem isT_of {l : List VAL} (h : ∀ v ∈ l, isV v = true) (hl : l.length ≤ 8) : isT l = true := by
  simp only [isT, Bool.and_eq_true, List.all_eq_true, decide_eq_true_eq]
  exact ⟨h, hl⟩
theorem pTup_just {xs : List UInt8} {b : List VAL × List UInt8} (h : pTup xs = some b) : xs = tupB b.1 ++ b.2 ∧ isT b.1 = true ∧ ∀ v ∈ b.1, okV v := by
  cases xs with
  | nil => cases h
  | cons c xs =>
    rw [pTup] at h
    split at h
    · cases h
    · rename_i hc
      obtain ⟨h1, h2, h3⟩ := pVals_just _ _ _ h
      refine ⟨?_, isT_of (fun v hv => (h3 v hv).1) Zz, fun v hv => (h3 v hv).2⟩
      rw [tupB, h2, UInt8.ofNat_toNat, List.cons_append, ← h1]
theorem pCnt_just {xs : List UInt8} {b : (List VAL × Int) × List UInt8} (h : pCnt xs = some b) : xs = cntB b.1.1 b.1.2 ++ b.2 ∧ isT b.1.1 = true ∧ (∀ v ∈ b.1.1, okV v) ∧ okI b.1.2 := by
  rw [pCnt] at h
  split at h
  · cases h
  · rename_i l ys hq
    obtain ⟨q, hq2, rfl⟩ := Option.map_eq_some_iff.1 h
    obtain ⟨h1, h2, h3⟩ := pTup_just hq
    obtain ⟨h4, h5⟩ := pInt_just hq2
    dsimp only at *
    exact ⟨by rw [cntB, List.append_assoc, ← h4]; exact h1, h2, h3, h5⟩
/-! ### Keys -/
theorem pSym_back : ∀ (s t : List UInt8), pSym (s.flatMap escB ++ [0, 1] ++ t) = some (s, t)
  | [], t => by
    show pSym (0 :: 1 :: t) = _
    rw [pSym_0 rfl]; rfl
  | c :: s, t => by
    rw [List.flatMap_cons, List.append_assoc, List.append_assoc]
    by_cases hc : c = 0
    · subst hc
      have e : escB 0 = [0, 255] := rfl
      rw [e]
      show pSym (0 :: 255 :: (s.flatMap escB ++ ([0, 1] ++ t))) = _
      rw [pSym_0 rfl]
      dsimp only
      rw [if_neg (by decide), if_pos (by decide), ← List.append_assoc, pSym_back s t]; rfl
    · have e : escB c = [c] := by simp [escB, hc]
      rw [e]
      show pSym (c :: (s.flatMap escB ++ ([0, 1] ++ t))) = _
      rw [pSym_1 (fun h => hc (UInt8.toNat_inj.1 h)), ← List.append_assoc, pSym_back s t]; rfl
theorem beN_app (a b : List UInt8) : beN (a ++ b) = beN a * 256 ^ b.length + beN b := by
  have key : ∀ (b : List UInt8) (x : Nat), b.foldl (fun x c => x * 256 + c.toNat) x = x * 256 ^ b.length + beN b := by
    intro b
    induction b with
    | nil => intro x; simp [beN]
    | cons c b ih =>
      intro x
      rw [List.foldl_cons, ih, List.length_cons, Nat.pow_succ, show beN (c :: b) = c.toNat * 256 ^ b.length + beN b by rw [beN, List.foldl_cons, ih]; simp, Nat.add_mul, Nat.mul_assoc, Nat.mul_comm 256]
      omega
  rw [beN, List.foldl_append, key]; rfl
theorem dig_len : ∀ n K, (dig n K).length = n
  | 0, _ => rfl
  | n + 1, K => by rw [dig, List.length_cons, dig_len n K]
theorem beN_dig : ∀ n K, beN (dig n K) = K % 256 ^ n
  | 0, K => by simp [dig, beN, Nat.mod_one]
  | n + 1, K => by
    have e : dig (n + 1) K = [UInt8.ofNat (K / 256 ^ n)] ++ dig n K := rfl
    rw [e, beN_app, dig_len, beN_dig n K, Nat.mod_pow_succ]
    have : beN [UInt8.ofNat (K / 256 ^ n)] = K / 256 ^ n % 256 := by simp [beN]
    rw [this, Nat.mul_comm]; omega
theorem pKey_back {v : VAL} (hv : isV v = true) (ho : okV v) (s : List UInt8) : pKey (valK v ++ s) = some (v, s) := by
  obtain ⟨k, n, t⟩ := v
  rcases isV_cases hv with ⟨h1, h2⟩ | ⟨h1, h2, h3⟩ <;> simp only at h1 h2 <;> subst h1 h2
  · have hn := keyN_ok ho.2.1
    have hl : (dig 8 (keyN n) ++ s).length = 8 + s.length := by rw [List.length_append, dig_len]
    rw [valK_1 rfl, List.cons_append, pKey, if_pos (by decide), if_pos (by dsimp only; omega)]
    have e1 : (dig 8 (keyN n) ++ s).take 8 = dig 8 (keyN n) := List.take_left' (dig_len 8 _)
    have e2 : (dig 8 (keyN n) ++ s).drop 8 = s := List.drop_left' (dig_len 8 _)
    dsimp only
    rw [e1, e2, beN_dig, Nat.mod_eq_of_lt (by have := hn.2; dsimp only at this; omega)]
    have h3 := hn.1
    dsimp only at h3
    rw [h3]
    rw [Int.add_sub_cancel]
  · rw [valK_2 rfl, List.cons_append, pKey, if_neg (by decide), if_pos (by decide), pSym_back]
    simp only [Option.map_some, arr_of]
theorem pAll_back : ∀ (l : List VAL), (∀ v ∈ l, isV v = true ∧ okV v) → pAll (keyB l) = some l
  | [], _ => rfl
  | v :: l, h => by
    have hv := h v List.mem_cons_self
    have e : keyB (v :: l) = valK v ++ keyB l := List.flatMap_cons
    rw [e, pAll_cons (pKey_back hv.1 hv.2 _), pAll_back l (fun u hu => h u (List.mem_cons_of_mem _ hu))]; rfl
theorem pFrom_back {l : List VAL} (hl : isT l = true) (ho : ∀ v ∈ l, okV v) : pFrom (keyB l) = some l := by
  rw [pFrom_some (pAll_back l (fun v hv => ⟨isT_all hl v hv, ho v hv⟩)), if_pos hl]
abbrev R32 := BitVec 32
def poly : R32 := 0xEDB88320#32
def st1 (r : R32) : R32 := if r.getLsbD 0 then (r >>> 1) ^^^ poly else r >>> 1
def tabL : List Nat := [0x00000000, 0x1db71064, 0x3b6e20c8, 0x26d930ac, 0x76dc4190, 0x6b6b51f4, 0x4db26158, 0x5005713c, 0xedb88320, 0xf00f9344, 0xd6d6a3e8, 0xcb61b38c, 0x9b64c2b0, 0x86d3d2d4, 0xa00ae278, 0xbdbdf21c]
def tabV (n : Nat) : R32 := BitVec.ofNat 32 (tabL.getD n 0)
def nib (r : R32) : R32 := (r >>> 4) ^^^ tabV (r &&& 15#32).toNat
def C32 (c : UInt8) : R32 := BitVec.ofNat 32 c.toNat
def byteC (r : R32) (c : UInt8) : R32 := nib (nib (r ^^^ C32 c))
def moreC (r : R32) (l : List UInt8) : R32 := l.foldl byteC r
def sumC (l : List UInt8) : R32 := ~~~ (moreC (BitVec.ofNat 32 4294967295) l)
def lowC (r : R32) : List UInt8 := [UInt8.ofNat r.toNat, UInt8.ofNat (r >>> 8).toNat, UInt8.ofNat (r >>> 16).toNat, UInt8.ofNat (r >>> 24).toNat]
def num4 (a b c d : UInt8) : R32 := C32 a ||| (C32 b <<< 8) ||| (C32 c <<< 16) ||| (C32 d <<< 24)
def numC : List UInt8 → R32
  | a :: b :: c :: d :: _ => num4 a b c d
  | _ => 0
def sealC (l : List UInt8) : List UInt8 := l ++ lowC (sumC l)
def openC (l : List UInt8) : Int × List UInt8 :=
  if l.length < 4 then (41, []) else if sumC (l.take (l.length - 4)) = numC (l.drop (l.length - 4)) then (0, l.take (l.length - 4)) else (40, [])
theorem and15 (r : R32) : (r &&& 15#32).toNat = r.toNat % 16 := by
  rw [BitVec.toNat_and]
  exact Nat.and_two_pow_sub_one_eq_mod r.toNat 4
/-! ### the table in memory -/
def TabOk (w : World) : Prop := ∀ i, i < 16 → w.cell? ⟨0, i, none⟩ = some (.int .u32 ((tabV i).toNat : Int))
theorem TabOk.lt {w : World} (h : TabOk w) : 0 < w.heap.size := World.block_lt_of_cell? w _ (h 0 Zz)
theorem TabOk.ext {w w' : World} {T : Nat → Prop} (h : TabOk w) (x : Ext T w w') (hT : ¬ T 0) : TabOk w' := fun i hi => by
  rw [World.cell?_of_block (w := w) (x.keep _ h.lt hT)]; exact h i hi
theorem TabOk.keep {w w' : World} (h : TabOk w) (x : Keep w w') : TabOk w' := h.ext x id
theorem TabOk.at {w : World} (h : TabOk w) (r : R32) : w.cell? ((⟨0, 0, none⟩ : Addr).add ((((r &&& 15#32).toNat : Nat) : Int).toNat * 1)) = some (.int .u32 ((tabV (r &&& 15#32).toNat).toNat : Int)) := by
  rw [add_mk, Nat.mul_one, Nat.zero_add, Int.toNat_natCast]
  exact h _ (by rw [and15]; omega)
theorem E8 : ElemInfo Tryz.prog 5 1 1 := ElemInfo.of (z := .int .u8 0) Zl rfl rfl rfl
theorem moreC_cons (r : R32) (c : UInt8) (l : List UInt8) : moreC r (c :: l) = moreC (byteC r c) l := rfl
theorem more_c (r : R32) {lo hi : Nat} {A : Option Addr} {n c : Nat} {l : List UInt8} (w : World) (hs : Sl KB lo hi w A n l) (hT : TabOk w) : Ret Tryz.prog 154 #[.int .u32 (r.toNat : Int), .slice A n c] w fun v w' => v = .int .u32 ((moreC r l).toNat : Int) ∧ Keep w w' := by
 have hl := hs.len
 have hbd := hs.bound
 refine X.enter Tryz.func154 rfl Tryz.ntmps154 rfl<|Zs<|Zr<|Zoa rfl rfl<|Ze<|Zs<|Zs<|Zr<|Zoms rfl rfl<|Zo (X.lenSl Zu81 rfl) rfl<|Zom rfl rfl<|Ze<|Zb<|X.loopL (σ := Nat × R32) (fun s => [(0, .int .u32 (s.2.toNat : Int)), (7, .slice A n c), (8, .int .i64 (n : Int)), (9, .int .i64 (s.1 : Int))]) (fun s w' => s.1 ≤ n ∧ moreC s.2 (l.drop s.1) = moreC r l ∧ Keep w w') (fun s => n - s.1) (0, r) ⟨rfl, rfl, rfl, rfl, trivial⟩ ⟨by simp, by simp, (Keep.refl _)⟩ ?_
 rintro ⟨i, r1⟩ b wl ⟨hi0, hp, hk⟩ hback
 dsimp only
 simp only at hi0 hp
 refine Zs<|Zr<|X.opP X.wN rfl rfl (X.lss rfl rfl) (fun h10 => ?_) (fun h10 => ?_)
 ·obtain ⟨y, hx⟩ := getN i hl h10
  rw [drop_at hx, moreC_cons] at hp
  refine Ze<|Zs<|Zt rfl<|Zk<|Zs<|Zb<|Zs<|Zr<|Zo (X.idxS (hs.keep hk) Zu81 Zs5 rfl rfl ⟨by omega, by omega⟩) rfl<|Zo (X.loadS Zi5 (hs.keep hk) hx rfl (fun _ h => by rw [h.1]; rfl)) rfl ?_
  refine Zoab rfl rfl<|Ze<|Zs<|Zr<|Zomw rfl rfl<|Zomb rfl rfl<|Zo (X.cvI Zu5 Tryz.underlying210 rfl (cv8_32 _)) rfl<|Zo (X.xor_ rfl rfl (xor32 _ _)) rfl<|Zoaw rfl rfl<|Ze<|Zs<|Zr<|Zomw rfl rfl<|Zo (X.shr rfl rfl (by decide) (shr32 _ 4 (by decide))) rfl<|Zomw rfl rfl<|Zo (X.and_ rfl rfl (and32 _ 15#32)) rfl<|Zo (X.idxArr Tryz.underlying270 Tryz.sizeOf210 rfl rfl ⟨Int.natCast_nonneg _, by rw [and15]; omega⟩) rfl ?_
  refine Zo (X.load1 Tryz.isAgg210 rfl ((hT.keep hk).at _)) rfl<|Zo (X.xor_ rfl rfl (xor32 _ _)) rfl<|Zoaw rfl rfl<|Ze<|Zr<|Zomw rfl rfl<|Zo (X.shr rfl rfl (by decide) (shr32 _ 4 (by decide))) rfl<|Zomw rfl rfl<|Zo (X.and_ rfl rfl (and32 _ 15#32)) rfl<|Zo (X.idxArr Tryz.underlying270 Tryz.sizeOf210 rfl rfl ⟨Int.natCast_nonneg _, by rw [and15]; omega⟩) rfl ?_
  refine Zo (X.load1 Tryz.isAgg210 rfl ((hT.keep hk).at _)) rfl<|Zo (X.xor_ rfl rfl (xor32 _ _)) rfl<|Zoaw rfl rfl<|Ze<|Zi<|Zr<|Zo (X.add rfl rfl (X.w_i64 Zz)) rfl<|Zomi rfl rfl<|Ze ?_
  refine hback (i + 1, byteC r1 y) _ _ ⟨rfl, rfl, rfl, rfl, trivial⟩ ⟨by dsimp only; omega, hp, hk⟩ (by dsimp only; omega)
 ·rw [List.drop_of_length_le Zz] at hp
  refine Ze<|Zs<|Zf rfl<|Zx rfl<|Zs<|Zr<|Zomw rfl rfl<|Zoaw rfl rfl<|Ze<|X.ret1 (v := (.int .u32 _)) Tryz.func154 Tryz.results154 rfl ?_
  exact ⟨by rw [← hp]; rfl, hk⟩
theorem Sum_c {lo hi : Nat} {A : Option Addr} {n c : Nat} {l : List UInt8} (w : World) (hs : Sl KB lo hi w A n l) (hT : TabOk w) : Ret Tryz.prog 119 #[.slice A n c] w fun v w' => v = .int .u32 ((sumC l).toNat : Int) ∧ Keep w w' := by
 refine X.enter Tryz.func119 rfl Tryz.ntmps119 rfl<|Zs<|Zr<|Zoa rfl rfl<|Ze<|Zs<|Zr<|Zoms rfl rfl<|Zc (X.callE (more_c (BitVec.ofNat 32 4294967295) _ hs (hT.keep (Keep.refl _))) Tryz.call154 rfl rfl) rfl ?_
 rintro _ w1 ⟨rfl, hk1⟩
 have hk1' := hk1.size
 refine Zo (X.com rfl (com32 _)) rfl<|Zoaw rfl rfl<|Ze<|X.ret1 (v := (.int .u32 _)) Tryz.func119 Tryz.results119 rfl ?_
 exact ⟨rfl, hk1⟩
end Go.Proofs.YtjjhddjllpihaaaGreatDoor
