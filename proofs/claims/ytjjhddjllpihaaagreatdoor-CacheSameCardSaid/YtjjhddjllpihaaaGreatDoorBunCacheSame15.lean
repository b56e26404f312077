/- Texts that the proof of CacheSame stands on, part 15. -/
import Derived.Test.YtjjhddjllpihaaaGreatDoorRows
import Derived.LaidMore
import Derived.ProofKit
import Derived.OpenShut
import Derived.Stop.Joined
import Derived.KernelRfl
import Derived.Test.YtjjhddjllpihaaaGreatDoorProg
import Derived.Test.YtjjhddjllpihaaaGreatDoorBunCacheSame14
set_option maxHeartbeats 4000000
set_option maxRecDepth 100000
open Go.Proofs.Tryz renaming call65 → Zc65, call67 → Zc67, call77 → Zc77, call78 → Zc78, call79 → Zc79, call80 → Zc80, call81 → Zc81, call84 → Zc84, call88 → Zc88, func113 → Zf113, func14 → Zf14, func31 → Zf31, func37 → Zf37, func41 → Zf41, func42 → Zf42, func58 → Zf58, func61 → Zf61, func7 → Zf7, func77 → Zf77, func78 → Zf78, func80 → Zf80, func81 → Zf81, func85 → Zf85, func88 → Zf88, func9 → Zf9, isAgg109 → Zi109, isAgg2 → Zi2, isAgg25 → Zi25, isAgg29 → Zi29, isAgg3 → Zi3, isAgg5 → Zi5, isAgg81 → Zi81, isAgg90 → Zi90, isAgg92 → Zi92, isAgg96 → Zi96, results113 → Zr113, results14 → Zr14, results37 → Zr37, results41 → Zr41, results42 → Zr42, results61 → Zr61, results7 → Zr7, results9 → Zr9, sizeOf109 → Zs109, sizeOf2 → Zs2, sizeOf25 → Zs25, sizeOf29 → Zs29, sizeOf3 → Zs3, sizeOf5 → Zs5, sizeOf69 → Zs69, sizeOf88 → Zs88, sizeOf90 → Zs90, sizeOf92 → Zs92, sizeOf96 → Zs96, underlying100 → Zu100, underlying154 → Zu154, underlying171 → Zu171, underlying20 → Zu20, underlying29 → Zu29, underlying3 → Zu3, underlying5 → Zu5, underlying58 → Zu58, underlying69 → Zu69, underlying81 → Zu81, underlying90 → Zu90, underlying92 → Zu92, underlying96 → Zu96, zeroValue109 → Zv109, zeroValue3 → Zv3, zeroValue92 → Zv92
set_option linter.unusedSimpArgs false
set_option linter.unusedVariables false
namespace Go.Proofs.YtjjhddjllpihaaaGreatDoor
open Go Go.Proofs.YtjjhddjllpihaaaGreatDoor.X Go.ChangeShapes Go.WideShapes Go.ChangeAt Go.RowKit
def laidT : List (String × DataW Unit) := [("pedigree/crc.table", Rows.laid_pedigree_crc_table)]
theorem gTab : Tryz.prog.globalNamed "pedigree/crc.table" = some 0 := by kernel_rfl
theorem tTab : (Tryz.prog.globals[0]?).map (·.type) = some 270 := by kernel_rfl
theorem c32 : Tryz.prog.cellsOf 210 = 1 := by kernel_rfl
theorem tab_list : Rows.laid_pedigree_crc_table = (DataW.agg (tabL.map fun (n : Nat) => .lit (.int .u32 (n : Int))) : DataW Unit) := rfl
theorem tab_at : ∀ i : Fin 16, tabL[i.1]? = some (tabV i.1).toNat := by decide
theorem door_met (os : Os) (args : Array Value) : laidMetH Tryz.prog laidT ((World.doorLaid Tryz.prog 400 os).forCall (fun _ _ => 0) ⟨#[], args, []⟩).memory :=
  laidMetH_of_parts3 (fuel := 8) (laidMet_of_run' 8 Zl Zl) Zl Zl
theorem tabOk_of_laid {W : World} (h : laidMetH Tryz.prog laidT W) : TabOk W := by
  rw [MakeChecks.laidMetH_plain _ _ _ Zl] at h
  obtain ⟨ps, ⟨g0, t0, cs0, f0, p0, q0, hg0, ht0, hv0, hd0, _, _⟩, _, _⟩ := h
  obtain rfl := Option.some.inj (gTab.symm.trans hg0)
  obtain rfl := Option.some.inj (tTab.symm.trans ht0)
  obtain ⟨xs, m1, rfl, hx1, hlen, hn, hel⟩ := DataW.trod_array Tryz.underlying270 hd0
  intro i hi
  rw [tab_list] at hx1
  simp only [Prod.mk.injEq, DataW.agg.injEq] at hx1
  obtain ⟨x, hx⟩ : ∃ x, xs[i]? = some x := ⟨xs[i]'Zz, List.getElem?_eq_getElem Zz⟩
  have h1 := hel i hi
  rw [hx, c32] at h1
  obtain ⟨k, e1, e2, _⟩ := DataW.trod_int Tryz.underlying210 h1
  have h2 : (xs.map (·.1))[i]? = some x.1 := by rw [List.getElem?_map, hx]; rfl
  rw [← hx1.1, List.getElem?_map, tab_at ⟨i, hi⟩, e2] at h2
  have hk : k = ((tabV i).toNat : Int) := by
    simp at h2
    exact h2.symm
  subst hk
  have h3 : (cs0.toList.drop (i * 1)).take 1 = [Value.int .u32 ((tabV i).toNat : Int)] := e1
  have h4 : cs0.toList[i]? = some (Value.int .u32 ((tabV i).toNat : Int)) := by
    have := congrArg (fun l => l[0]?) h3
    rw [Nat.mul_one] at this
    simpa [List.getElem?_take, List.getElem?_drop] using this
  rw [World.var?_cell hg0 hv0 i]
  simpa using h4
end Go.Proofs.YtjjhddjllpihaaaGreatDoor
namespace Go.Proofs.YtjjhddjllpihaaaGreatDoor
open Go Go.Proofs.YtjjhddjllpihaaaGreatDoor.X
def HdC (lo hi : Nat) (w : World) (L : List CT) (l : List CD) : Prop := L.length = l.length ∧ ∀ (i : Nat) (x : CT), L[i]? = some x → ∃ q, l[i]? = some q ∧ x.2 = q.2 ∧ okI q.2 ∧ x.1.2.1 ≤ x.1.2.2 ∧ Sl KV lo hi w x.1.1 x.1.2.1 q.1
theorem kc_hd {lo hi : Nat} {w : World} {A : Option Addr} {n : Nat} {l : List CD} (h : Sl KC lo hi w A n l) : ∃ L, Sl KCt lo hi w A n L ∧ HdC lo hi w L l := by
  rcases Nat.eq_zero_or_pos n with hn | hn
  · subst hn
    have : l = [] := List.eq_nil_of_length_eq_zero h.len
    subst this
    exact ⟨[], Sl.nil _ _ _ _ _, rfl, fun i x hx => by simp at hx⟩
  obtain ⟨ad, e, h1, h2, hc⟩ := h.at_ hn
  obtain ⟨L, q1, q2⟩ := list_choose (l := l) (β := CT) (Q := fun j x y => (∀ i u, ([.slice y.1.1 y.1.2.1 y.1.2.2, .int .i64 y.2] : List Value)[i]? = some u → w.cell? (ad.add (j * 2 + i)) = some u) ∧ y.2 = x.2 ∧ okI x.2 ∧ y.1.2.1 ≤ y.1.2.2 ∧ Sl KV lo hi w y.1.1 y.1.2.1 x.1) (fun j x hx => by
    obtain ⟨cs, ⟨a, b, rfl, ⟨A', n', c', rfl, hnc, hs⟩, hb, hi'⟩, hq⟩ := hc j x hx
    subst hb
    exact ⟨((A', n', c'), x.2), fun i u hu => hq i u hu, rfl, hi', hnc, hs⟩)
  refine ⟨L, ⟨by rw [q1]; exact h.len, h.bound, fun _ => ⟨ad, e, h1, h2, fun j y hy => ?_⟩⟩, q1, fun i x hx => ?_⟩
  · have hj : j < l.length := by rw [← q1]; exact (List.getElem?_eq_some_iff.1 hy).1
    obtain ⟨y', g1, g2, _⟩ := q2 j _ (List.getElem?_eq_getElem hj)
    rw [hy] at g1; cases g1
    exact ⟨_, ⟨rfl, trivial⟩, g2⟩
  · have hj : i < l.length := by rw [← q1]; exact (List.getElem?_eq_some_iff.1 hx).1
    obtain ⟨y', g1, _, g2, g3, g4, g5⟩ := q2 i _ (List.getElem?_eq_getElem hj)
    rw [hx] at g1; cases g1
    exact ⟨_, List.getElem?_eq_getElem hj, g2, g3, g4, g5⟩
theorem hd_kc {lo hi : Nat} {w : World} {A : Option Addr} {n : Nat} {L : List CT} {l : List CD} (h : Sl KCt lo hi w A n L) (ht : HdC lo hi w L l) : Sl KC lo hi w A n l := by
  refine ⟨by rw [← ht.1]; exact h.len, h.bound, fun hn => ?_⟩
  obtain ⟨ad, e, h1, h2, hc⟩ := h.at_ hn
  refine ⟨ad, e, h1, h2, fun j q hq => ?_⟩
  obtain ⟨x, hx⟩ : ∃ x, L[j]? = some x := ⟨_, List.getElem?_eq_getElem (by rw [ht.1]; exact (List.getElem?_eq_some_iff.1 hq).1)⟩
  obtain ⟨q', g1, g2, g3, g4, g6⟩ := ht.2 j x hx
  rw [hq] at g1; cases g1
  obtain ⟨cs, ⟨hcs, _⟩, hq2⟩ := hc j x hx
  subst hcs
  exact ⟨[.slice x.1.1 x.1.2.1 x.1.2.2] ++ [.int .i64 x.2], ⟨_, _, rfl, ⟨_, _, _, rfl, g4, g6⟩, by rw [g2], g3⟩, fun i u hu => by rw [show KC.sz = KCt.sz from rfl]; exact hq2 i u hu⟩
def okAt (l : List CD) (i : Nat) : Bool := match l[i]? with
  | none => true
  | some q => isT q.1 && (!decide (q.2 = 0) && (decide (i = 0) || match l[i - 1]? with
    | none => true
    | some p => decide (cmpT p.1 q.1 < 0)))
def isR (l : List CD) : Bool := (List.range l.length).all (okAt l)
section
variable {l : List CD} {i : Nat} {q p : CD}
theorem isR_T (h : ∀ j, j < l.length → okAt l j = true) : isR l = true := List.all_eq_true.2 fun j hj => h j (List.mem_range.1 hj)
theorem isR_at (h : isR l = true) (i : Nat) : okAt l i = true := by
  by_cases hi : i < l.length
  · exact List.all_eq_true.1 h i (List.mem_range.2 hi)
  · rw [okAt, List.getElem?_eq_none Zz]
theorem isR_F (hq : l[i]? = some q) (h : okAt l i = false) : isR l = false := by
  cases hr : isR l with
  | false => rfl
  | true => rw [isR_at hr i] at h; cases h
theorem okAt_1 (hq : l[i]? = some q) (h : isT q.1 = false) : okAt l i = false := by rw [okAt, hq]; simp [h]
theorem okAt_2 (hq : l[i]? = some q) (h : q.2 = 0) : okAt l i = false := by rw [okAt, hq]; simp [h]
theorem okAt_3 (hq : l[i]? = some q) (h0 : 0 < i) (hp : l[i - 1]? = some p) (h : 0 ≤ cmpT p.1 q.1) : okAt l i = false := by
  rw [okAt, hq]
  simp only [hp]
  rw [decide_eq_false (show ¬ i = 0 by omega), decide_eq_false (show ¬ cmpT p.1 q.1 < 0 by omega)]; simp
theorem okAt_T0 (hq : l[i]? = some q) (h1 : isT q.1 = true) (h2 : q.2 ≠ 0) (h0 : i = 0) : okAt l i = true := by
  rw [okAt, hq]; simp [h1, h2, h0]
theorem okAt_T (hq : l[i]? = some q) (h1 : isT q.1 = true) (h2 : q.2 ≠ 0) (hp : l[i - 1]? = some p) (h : cmpT p.1 q.1 < 0) : okAt l i = true := by
  rw [okAt, hq]; simp [h1, h2, hp, h]
theorem okAt_t (hq : l[i]? = some q) (h : okAt l i = true) : isT q.1 = true ∧ q.2 ≠ 0 ∧ (0 < i → ∀ p, l[i - 1]? = some p → cmpT p.1 q.1 < 0) := by
  rw [okAt, hq] at h
  simp only [Bool.and_eq_true, Bool.not_eq_true', decide_eq_false_iff_not] at h
  refine ⟨h.1, h.2.1, fun h0 p hp => ?_⟩
  have h3 := h.2.2
  rw [hp, decide_eq_false (show ¬ i = 0 by omega)] at h3
  simpa using h3
end
theorem isT_no {l : List VAL} (h : ¬ l.length ≤ 8) : isT l = false := by rw [isT, decide_eq_false h, Bool.and_false]
theorem isT_bad {l : List VAL} {i : Nat} {v : VAL} (hv : l[i]? = some v) (h : isV v = false) : isT l = false := by
  rw [isT, List.all_eq_false.2 ⟨v, List.mem_of_getElem? hv, by simp [h]⟩, Bool.false_and]
theorem isT_yes {l : List VAL} (h8 : l.length ≤ 8) (h : ∀ (j : Nat) v, j < l.length → l[j]? = some v → isV v = true) : isT l = true := by
  rw [isT, decide_eq_true h8, Bool.and_true]
  refine List.all_eq_true.2 fun v hv => ?_
  obtain ⟨j, hj⟩ := List.getElem?_of_mem hv
  exact h j v (List.getElem?_eq_some_iff.1 hj).1 hj
theorem take_step {l : List VAL} {i : Nat} {v : VAL} (hv : l[i]? = some v) (h : isV v = true) (hI : ∀ (j : Nat) u, j < i → l[j]? = some u → isV u = true) : ∀ (j : Nat) u, j < i + 1 → l[j]? = some u → isV u = true := fun j u hj hu => by
  rcases Nat.lt_or_ge j i with h1 | h1
  · exact hI j u h1 hu
  · have : j = i := by omega
    subst this; rw [hv] at hu; cases hu; exact h
theorem tCheck_c {lo hi : Nat} {A : Option Addr} {n c : Nat} {l : List VAL} (w : World) (hs : Sl KV lo hi w A n l) : Ret Tryz.prog 113 #[.slice A n c] w fun r w' => r = .int .i64 (if isT l then 0 else 20) ∧ Keep w w' := by
 have hsl := hs.len
 have hsb := hs.bound
 refine X.enter Zf113 rfl Tryz.ntmps113 rfl<|Zs<|Zr<|Zoa rfl rfl<|Ze<|Zs<|Zs<|Zr<|Zoms rfl rfl<|Zo (X.lenSl Zu90 rfl) rfl<|X.opP X.wN rfl rfl (X.gtr rfl rfl) (fun h7 => ?_) (fun h7 => ?_)
 ·refine Ze<|Zt rfl<|Zs<|Zr<|Zoa rfl rfl<|Ze<|X.ret1 (v := (.int .i64 _)) Zf113 Zr113 rfl ?_
  rw [isT_no Zz]; exact ⟨rfl, (Keep.refl _)⟩
 ·refine Ze<|Zf rfl<|Zk<|Zs<|Zs<|Zr<|Zoms rfl rfl<|Zo (X.lenSl Zu90 rfl) rfl<|Zom rfl rfl<|Ze<|Zb<|X.loopL (σ := Nat) (fun s => [(8, .slice A n c), (9, .int .i64 (n : Int)), (10, .int .i64 (s : Int))]) (fun s w' => s ≤ n ∧ (∀ (j : Nat) u, j < s → l[j]? = some u → isV u = true) ∧ Keep w w') (fun s => n - s) 0 ⟨rfl, rfl, rfl, trivial⟩ ⟨by omega, fun j _ h => absurd h Zz, (Keep.refl _)⟩ ?_
  rintro i b w1 ⟨hi, hI, hk⟩ hback
  have hk0 := hk.size
  refine Zs<|Zr<|X.opP X.wN rfl rfl (X.lss rfl rfl) (fun h11 => ?_) (fun h11 => ?_)
  ·obtain ⟨v, hx⟩ : ∃ v, l[i]? = some v := ⟨_, List.getElem?_eq_getElem Zz⟩
   refine Ze<|Zs<|Zt rfl<|Zk<|Zs<|Zb<|Zs<|Zr<|Zo (X.idxS (hs.keep hk) Zu90 Zs88 rfl rfl ⟨by omega, by omega⟩) rfl<|Zo (X.loadSN Tryz.isAgg88 Zs88 (hs.keep hk) hx rfl (fun _ h => h.1) rfl) rfl<|Zc (X.allocE Tryz.zeroValue88 rfl) rfl ?_
   rintro _ w1 ⟨rfl, hB1, hk1, hz1⟩
   refine Zc (X.storeNE Zs88 hB1 rfl rfl rfl rfl (encV_one _)) rfl ?_
   rintro _ w2 ⟨hB2, hx2, hz2⟩
   refine Ze<|Zs<|Zr<|Zo (X.loadNB Tryz.isAgg88 Zs88 hB2 rfl rfl rfl) rfl<|Zc (X.callE (Check_c _ _) Tryz.call149 rfl rfl) rfl ?_
   rintro _ w3 ⟨rfl, hk3⟩
   have hk3' := hk3.size
   refine X.opP X.wN rfl rfl (X.neI rfl rfl) (fun h16 => ?_) (fun h16 => ?_)
   ·refine Ze<|Zt rfl<|Zs<|Zr<|Zoa rfl rfl<|Ze<|X.ret1 (v := (.int .i64 _)) Zf113 Zr113 rfl ?_
    have hv : isV v = false := by cases hv : isV v with | false => rfl | true => rw [hv] at h16; simp at h16
    rw [isT_bad hx hv]; exact ⟨rfl, (((hk.trans hk1).step hx2 zq34).trans hk3)⟩
   ·refine Ze<|Zf rfl<|Zk<|Zi<|Zr<|Zo (X.add rfl rfl (X.w_i64 Zz)) rfl<|Zomi rfl rfl<|Ze ?_
    refine hback (i + 1) _ _ ⟨rfl, rfl, rfl, trivial⟩ ⟨by omega, take_step hx ((by cases hv : isV v with | true => rfl | false => rw [hv] at h16; simp at h16)) hI, (((hk.trans hk1).step hx2 zq34).trans hk3)⟩ Zz
  ·refine Ze<|Zs<|Zf rfl<|Zx rfl<|Zs<|Zr<|Zoa rfl rfl<|Ze<|X.ret1 (v := (.int .i64 _)) Zf113 Zr113 rfl ?_
   rw [isT_yes Zz (fun j u hj hu => hI j u Zz hu)]; exact ⟨rfl, hk⟩
theorem ok_step {l : List CD} {i : Nat} (h : okAt l i = true) (hI : ∀ j, j < i → okAt l j = true) : ∀ j, j < i + 1 → okAt l j = true := fun j hj => by
  rcases Nat.lt_or_ge j i with h1 | h1
  · exact hI j h1
  · have : j = i := by omega
    subst this; exact h
theorem rCheck_c {lo hi : Nat} {A : Option Addr} {n c : Nat} {l : List CD} (w : World) (hs : Sl KC lo hi w A n l) (hhi : hi ≤ w.heap.size) : Ret Tryz.prog 61 #[.slice A n c] w fun r w' => r = .int .i64 (if isR l then 0 else 70) ∧ Keep w w' := by
 obtain ⟨L, hsL, hLl, hLt⟩ := kc_hd hs
 have hsl := hs.len
 have hsb := hs.bound
 refine X.enter Zf61 rfl Tryz.ntmps61 rfl<|Zs<|Zr<|Zoa rfl rfl<|Ze<|Zs<|Zs<|Zr<|Zoms rfl rfl<|Zo (X.lenSl Zu29 rfl) rfl<|Zom rfl rfl<|Ze<|Zb<|X.loopL (σ := Nat) (fun s => [(0, .slice A n c), (5, .slice A n c), (6, .int .i64 (n : Int)), (7, .int .i64 (s : Int))]) (fun s w' => s ≤ n ∧ (∀ j, j < s → okAt l j = true) ∧ Keep w w') (fun s => n - s) 0 ⟨rfl, rfl, rfl, rfl, trivial⟩ ⟨by omega, fun j h => absurd h Zz, (Keep.refl _)⟩ ?_
 rintro i b w1 ⟨hi, hI, hk⟩ hback
 have hk0 := hk.size
 refine Zs<|Zr<|X.opP X.wN rfl rfl (X.lss rfl rfl) (fun h8 => ?_) (fun h8 => ?_)
 ·obtain ⟨x, hx⟩ : ∃ x, L[i]? = some x := ⟨_, List.getElem?_eq_getElem Zz⟩
  obtain ⟨q, hq, eq, oq, nq, ht⟩ := hLt _ _ hx
  refine Ze<|Zs<|Zt rfl<|Zk<|Zs<|Zb<|Zs<|Zr<|Zomi rfl rfl<|Zo (X.idxS (hsL.keep hk) Zu29 Zs92 rfl rfl ⟨by omega, by omega⟩) rfl<|Zo (X.loadSN Zi92 Zs92 (hsL.keep hk) hx rfl (fun _ h => h.1) rfl) rfl<|Zc (X.allocE Zv92 rfl) rfl ?_
  rintro _ w1 ⟨rfl, hB1, hk1, hz1⟩
  refine Zoai rfl rfl<|Zc (X.storeNE Zs92 hB1 rfl rfl rfl rfl (fun u hu => by simp at hu; rcases hu with rfl | rfl <;> rfl)) rfl ?_
  rintro _ w2 ⟨hB2, hx2, hz2⟩
  refine Ze<|Zs<|X.regionD (fun _ => False) 25 Zl Zl (fun w3 hk3 hz3 => ?_)
  refine ZDc 0 rfl Zl (X.fldB (j := 0) Zu92 rfl rfl Zs90 rfl)<|ZD 1 rfl Zl (fun w' hk' => X.load1B Zi90 (hB2.keep (hk3.trans hk')) rfl rfl)<|X.dE (i := 2) Zl rfl (X.dwN rfl) (X.callE (tCheck_c _ (ht.keep (((hk.trans hk1).step hx2 zq34).trans hk3))) Tryz.call113 rfl rfl) (by rintro _ w4 ⟨rfl, hk4⟩ _; exact hk4.mono (fun _ _ h => h.elim)) ?_
  rintro _ w4 ⟨rfl, hk4⟩
  have hk4' := hk4.size
  refine ZDc 3 rfl Zl (X.neI rfl rfl)<|ZDc 4 rfl Zl (Zdmo rfl)<|X.dFork 16 rfl (fun h16 => ?_) (fun h16 => ?_)
  ·have hT : isT q.1 = false := by
     cases hq0 : isT q.1 with
     | false => rfl
     | true => rw [hq0] at h16; simp at h16
   refine ZS 5 Zl rfl rfl rfl<|ZS 6 Zl rfl rfl rfl<|ZS 7 Zl rfl rfl rfl<|ZDc 8 rfl Zl (ZdTt rfl rfl)<|ZDc 9 rfl Zl (Zdmt rfl)<|ZS 10 Zl rfl rfl rfl<|ZS 11 Zl rfl rfl rfl<|ZS 12 Zl rfl rfl rfl<|X.dTakeU 13 rfl Zl Zl Zl rfl rfl rfl<|X.dTakeU 14 rfl Zl Zl Zl rfl rfl rfl<|X.dTakeU 15 rfl Zl Zl Zl rfl rfl rfl<|X.dTakeU 16 rfl Zl Zl Zl rfl rfl rfl<|X.dTakeU 17 rfl Zl Zl Zl rfl rfl rfl<|X.dTakeU 18 rfl Zl Zl Zl rfl rfl rfl<|ZU 19 Zl rfl rfl rfl<|ZU 20 Zl rfl rfl rfl<|ZU 21 Zl rfl rfl rfl<|ZU 22 Zl rfl rfl rfl<|ZS 23 Zl rfl rfl rfl<|ZDc 24 rfl Zl (ZdTt rfl rfl)<|Zdend Zl<|Zt rfl<|Zs<|Zr<|Zoa rfl rfl<|Ze<|X.ret1 (v := (.int .i64 _)) Zf61 Zr61 rfl ?_
   exact ⟨by rw [isR_F hq (okAt_1 hq hT)] <;> rfl, ((((hk.trans hk1).step hx2 zq34).trans hk3).trans hk4)⟩
  ·have hT : isT q.1 = true := by
     cases hq0 : isT q.1 with
     | true => rfl
     | false => rw [hq0] at h16; simp at h16
   refine ZG 5 rfl rfl rfl Zl (fun w' hk' => X.fldB (j := 1) Zu92 rfl rfl Zs2 rfl)<|ZG 6 rfl rfl rfl Zl (fun w' hk' => X.load1B Zi2 (hB2.keep ((hk3.trans hk4).trans hk')) rfl rfl)<|ZG 7 rfl rfl rfl Zl (fun w' hk' => X.eqI rfl rfl)<|ZDc 8 rfl Zl (ZdFo rfl rfl)<|ZDc 9 rfl Zl (Zdmo rfl)<|X.dFork 21 rfl (fun h21 => ?_) (fun h21 => ?_)
   ·have hN : q.2 = 0 := by rw [← eq]; exact of_decide_eq_true h21
    refine ZS 10 Zl rfl rfl rfl<|ZS 11 Zl rfl rfl rfl<|ZS 12 Zl rfl rfl rfl<|X.dTakeU 13 rfl Zl Zl Zl rfl rfl rfl<|X.dTakeU 14 rfl Zl Zl Zl rfl rfl rfl<|X.dTakeU 15 rfl Zl Zl Zl rfl rfl rfl<|X.dTakeU 16 rfl Zl Zl Zl rfl rfl rfl<|X.dTakeU 17 rfl Zl Zl Zl rfl rfl rfl<|X.dTakeU 18 rfl Zl Zl Zl rfl rfl rfl<|ZU 19 Zl rfl rfl rfl<|ZU 20 Zl rfl rfl rfl<|ZU 21 Zl rfl rfl rfl<|ZU 22 Zl rfl rfl rfl<|ZS 23 Zl rfl rfl rfl<|ZDc 24 rfl Zl (ZdTt rfl rfl)<|Zdend Zl<|Zt rfl<|Zs<|Zr<|Zoa rfl rfl<|Ze<|X.ret1 (v := (.int .i64 _)) Zf61 Zr61 rfl ?_
    exact ⟨by rw [isR_F hq (okAt_2 hq hN)] <;> rfl, ((((hk.trans hk1).step hx2 zq34).trans hk3).trans hk4)⟩
   ·have hN : ¬ q.2 = 0 := by rw [← eq]; exact of_decide_eq_false h21
    refine ZG 10 rfl rfl rfl Zl (fun w' hk' => Zdmi rfl)<|ZG 11 rfl rfl rfl Zl (fun w' hk' => X.gtr rfl rfl)<|ZG 12 rfl rfl rfl Zl (fun w' hk' => Zdmo rfl)<|X.dFork 24 rfl (fun h24 => ?_) (fun h24 => ?_)
    ·have h24' : (0 : Int) < (i : Int) := of_decide_eq_true h24
     obtain ⟨y, hy0⟩ : ∃ y, L[(i - 1)]? = some y := ⟨_, List.getElem?_eq_getElem Zz⟩
     obtain ⟨p, hp, ep, op, np, ht2⟩ := hLt _ _ hy0
     have hy : L[((i : Int) - 1).toNat]? = some y := by rw [show ((i : Int) - 1).toNat = i - 1 by omega]; exact hy0
     refine ZG 13 rfl rfl rfl Zl (fun w' hk' => Zdms rfl)<|ZG 14 rfl rfl rfl Zl (fun w' hk' => Zdmi rfl)<|ZG 15 rfl rfl rfl Zl (fun w' hk' => X.sub rfl rfl (X.w_i64 Zz))<|ZG 16 rfl rfl rfl Zl (fun w' hk' => X.idxS (hsL.keep (((((hk.trans hk1).step hx2 zq34).trans hk3).trans hk4).trans hk')) Zu29 Zs92 rfl rfl ⟨by omega, by omega⟩) ?_
     refine ZG 17 rfl rfl rfl Zl (fun w' hk' => X.fldA Zu92 rfl rfl Zs90)<|ZG 18 rfl rfl rfl Zl (fun w' hk' => X.loadSf (o := 0) Zi90 (hsL.keep (((((hk.trans hk1).step hx2 zq34).trans hk3).trans hk4).trans hk')) hy rfl (fun _ h => by rw [h.1]; rfl)) ?_
     refine ZG 19 rfl rfl rfl Zl (fun w' hk' => X.fldB (j := 0) Zu92 rfl rfl Zs90 rfl)<|ZG 20 rfl rfl rfl Zl (fun w' hk' => X.load1B Zi90 (hB2.keep ((hk3.trans hk4).trans hk')) rfl rfl)<|X.dE (i := 21) Zl rfl (X.dwG rfl rfl rfl) (X.callE (tupleCompare_c _ (ht2.keep ((((hk.trans hk1).step hx2 zq34).trans hk3).trans hk4)) (ht.keep ((((hk.trans hk1).step hx2 zq34).trans hk3).trans hk4))) Zc84 rfl rfl) (by rintro _ w5 ⟨rfl, hk5⟩ _; exact hk5.mono (fun _ _ h => h.elim)) ?_
     rintro _ w5 ⟨rfl, hk5⟩
     have hk5' := hk5.size
     refine ZG 22 rfl rfl rfl Zl (fun w' hk' => X.geq rfl rfl)<|ZG 23 rfl rfl rfl Zl (fun w' hk' => ZdTo rfl rfl)<|ZDc 24 rfl Zl (ZdFo rfl rfl)<|Zdend Zl<|X.condB rfl (fun hc36 => ?_) (fun hc36 => ?_)
     ·have hc := of_decide_eq_true hc36
      refine Zs<|Zr<|Zoa rfl rfl<|Ze<|X.ret1 (v := (.int .i64 _)) Zf61 Zr61 rfl ?_
      exact ⟨by rw [isR_F hq (okAt_3 hq Zz hp Zz)] <;> rfl, (((((hk.trans hk1).step hx2 zq34).trans hk3).trans hk4).trans hk5)⟩
     ·have hc := of_decide_eq_false hc36
      refine Zk<|Zi<|Zr<|Zo (X.add rfl rfl (X.w_i64 Zz)) rfl<|Zomi rfl rfl<|Ze ?_
      refine hback (i + 1) _ _ ⟨rfl, rfl, rfl, rfl, trivial⟩ ⟨by omega, ok_step (okAt_T hq hT hN hp Zz) hI, (((((hk.trans hk1).step hx2 zq34).trans hk3).trans hk4).trans hk5)⟩ Zz
    ·have h24' : ¬ (0 : Int) < (i : Int) := of_decide_eq_false h24
     refine X.dTakeS 13 rfl Zl Zl Zl rfl rfl rfl rfl<|X.dTakeS 14 rfl Zl Zl Zl rfl rfl rfl rfl<|X.dTakeS 15 rfl Zl Zl Zl rfl rfl rfl rfl<|X.dTakeS 16 rfl Zl Zl Zl rfl rfl rfl rfl<|X.dTakeS 17 rfl Zl Zl Zl rfl rfl rfl rfl<|X.dTakeS 18 rfl Zl Zl Zl rfl rfl rfl rfl<|ZS 19 Zl rfl rfl rfl<|ZS 20 Zl rfl rfl rfl<|ZS 21 Zl rfl rfl rfl<|ZS 22 Zl rfl rfl rfl<|ZG 23 rfl rfl rfl Zl (fun w' hk' => ZdFf rfl rfl)<|ZDc 24 rfl Zl (ZdFf rfl rfl)<|Zdend Zl<|Zf rfl<|Zk<|Zi<|Zr<|Zo (X.add rfl rfl (X.w_i64 Zz)) rfl<|Zomi rfl rfl<|Ze ?_
     refine hback (i + 1) _ _ ⟨rfl, rfl, rfl, rfl, trivial⟩ ⟨by omega, ok_step (okAt_T0 hq hT hN Zz) hI, ((((hk.trans hk1).step hx2 zq34).trans hk3).trans hk4)⟩ Zz
 ·refine Ze<|Zs<|Zf rfl<|Zx rfl<|Zs<|Zr<|Zoa rfl rfl<|Ze<|X.ret1 (v := (.int .i64 _)) Zf61 Zr61 rfl ?_
  exact ⟨by rw [isR_T (fun j hj => hI j Zz)] <;> rfl, hk⟩
def entB (q : CD) : List UInt8 := if isT q.1 = true then cntB q.1 q.2 else []
theorem entry_c {lo hi : Nat} {A : Option Addr} {n c : Nat} {q : CD} {N : Int} (w : World) (hs : Sl KV lo hi w A n q.1) (hhi : hi ≤ w.heap.size) (hN : okI N) (hq : N = q.2) : Ret Tryz.prog 115 #[.agg #[.slice A n c, .int .i64 N]] w fun r w' => FreshB w w' r (entB q) := by
 refine X.enter Tryz.func115 rfl Tryz.ntmps115 rfl<|Zs<|Zr<|Zc (X.boxE rfl rfl) rfl ?_
 rintro _ w1 ⟨rfl, hB1, hk1, hz1⟩
 refine Zoa rfl rfl<|Ze<|Zs<|Zr<|Zo (X.loadNB Zi92 Zs92 hB1 rfl rfl rfl) rfl<|Zc (X.callE (Counted_c _ hN _ (hs.keep hk1) Zz) Tryz.call150 rfl rfl) rfl ?_
 rintro _ w2 ⟨v, rfl, hM2, hk2⟩
 have hk2' := hk2.size
 refine Zom rfl rfl<|Zo (X.extr rfl rfl) rfl<|Zo (X.extr rfl rfl) rfl<|Zoa rfl rfl<|Zoai rfl rfl<|Ze<|Zs<|Zr<|Zom rfl rfl<|Zoa rfl rfl<|Ze<|X.ret1 Tryz.func115 Tryz.results115 rfl ?_
 subst hq
 exact ⟨hM2.mono (fun k _ hk => by (try simp only [] at *); omega), (hk1.trans hk2)⟩
theorem len_flat {α : Type} {f : α → List UInt8} {k : Nat} : ∀ {l : List α}, (∀ x, x ∈ l → (f x).length ≤ k) → (l.flatMap f).length ≤ l.length * k
  | [], _ => by simp
  | x :: l, h => by
    have h1 := h x List.mem_cons_self
    have h2 := len_flat (l := l) fun y hy => h y (List.mem_cons_of_mem _ hy)
    rw [List.flatMap_cons, List.length_append, List.length_cons, Nat.add_mul]; omega
theorem valB_le {v : VAL} (h : okV v) (hv : isV v = true) : (valB v).length ≤ 270 := by
  unfold valB
  have h2 := of_decide_eq_true hv
  split
  · rename_i h1
    have := numB_10 (zig v.2.1) (zig_ok _ h.2.1).2
    rw [List.length_cons]; omega
  · rename_i h1
    have h3 : v.2.2.size ≤ 256 := by rcases h2 with h2 | h2; exact absurd h2.1 h1; exact h2.2.2
    have := numB_10 (v.2.2.data.toList.length : Int) (by rw [sym_len]; omega)
    rw [Int.toNat_natCast] at this
    rw [List.length_cons, textB, List.length_append, sym_len]
    rw [sym_len] at this; omega
theorem valK_le {v : VAL} (hv : isV v = true) : (valK v).length ≤ 520 := by
  unfold valK
  have h2 := of_decide_eq_true hv
  split
  · simp
  · rename_i h1
    have h3 : v.2.2.size ≤ 256 := by rcases h2 with h2 | h2; exact absurd h2.1 h1; exact h2.2.2
    have := esc_len v.2.2.data.toList
    rw [sym_len] at this
    rw [List.length_cons, List.length_append]; simp only [List.length_cons, List.length_nil]; omega
def Oks (l : List CD) : Prop := ∀ q, q ∈ l → okI q.2 ∧ ∀ v, v ∈ q.1 → okV v
theorem tup_le {t : List VAL} (h : ∀ v, v ∈ t → okV v) (ht : isT t = true) : (tupB t).length ≤ 2161 ∧ (keyB t).length ≤ 4160 := by
  have h8 := isT_len ht
  have h1 : ∀ v, v ∈ t → isV v = true := isT_all ht
  have a := len_flat (f := valB) (k := 270) (l := t) fun v hv => valB_le (h v hv) (h1 v hv)
  have b := len_flat (f := valK) (k := 520) (l := t) fun v hv => valK_le (h1 v hv)
  rw [tupB, keyB, List.length_cons]; omega
theorem entB_le {q : CD} (h : okI q.2 ∧ ∀ v, v ∈ q.1 → okV v) : (entB q).length ≤ 2200 := by
  rw [entB]
  split
  · rename_i ht
    have a := (tup_le h.2 ht).1
    have b := numB_10 (zig q.2) (zig_ok _ h.1).2
    rw [cntB, List.length_append]; omega
  · simp
def pgsF : List CD → List CD → List (List CD)
  | cur, [] => if cur = [] then [] else [cur]
  | cur, q :: l => if cur ≠ [] ∧ 256 < (cur.flatMap entB).length + (entB q).length then cur :: pgsF [q] l else pgsF (cur ++ [q]) l
def pgs (l : List CD) : List (List CD) := pgsF [] l
theorem pgsF_flat : ∀ (l cur : List CD), (pgsF cur l).flatten = cur ++ l
  | [], cur => by rw [pgsF]; split <;> simp_all
  | q :: l, cur => by
    rw [pgsF]; split
    · rw [List.flatten_cons, pgsF_flat l]; simp
    · rw [pgsF_flat l]; simp
theorem pgs_flat (l : List CD) : (pgs l).flatten = l := pgsF_flat l []
theorem pgsF_ne : ∀ (l cur : List CD) (p : List CD), p ∈ pgsF cur l → p ≠ []
  | [], cur, p, h => by
    rw [pgsF] at h; split at h
    · cases h
    · rw [List.mem_singleton.1 h]; assumption
  | q :: l, cur, p, h => by
    rw [pgsF] at h; split at h
    · rename_i hc
      rcases List.mem_cons.1 h with rfl | h
      · exact hc.1
      · exact pgsF_ne l _ p h
    · exact pgsF_ne l _ p h
theorem pgs_ne {l p : List CD} (h : p ∈ pgs l) : p ≠ [] := pgsF_ne _ _ _ h
theorem pgs_sub {l p : List CD} (h : p ∈ pgs l) : ∀ q, q ∈ p → q ∈ l := fun q hq => by rw [← pgs_flat l]; exact List.mem_flatten.2 ⟨p, h, hq⟩
theorem flatten_len {α : Type} : ∀ {ps : List (List α)}, (∀ p, p ∈ ps → p ≠ []) → ps.length ≤ ps.flatten.length
  | [], _ => Nat.le_refl _
  | p :: ps, h => by
    have h1 := List.length_pos_iff.2 (h p List.mem_cons_self)
    have h2 := flatten_len (ps := ps) fun q hq => h q (List.mem_cons_of_mem _ hq)
    rw [List.flatten_cons, List.length_append, List.length_cons]; omega
theorem pgs_len (l : List CD) : (pgs l).length ≤ l.length := by
  have := flatten_len (ps := pgs l) fun p hp => pgs_ne hp
  rwa [pgs_flat] at this
theorem mem_len {α : Type} : ∀ {ps : List (List α)} {p : List α}, p ∈ ps → p.length ≤ ps.flatten.length
  | q :: ps, p, h => by
    rw [List.flatten_cons, List.length_append]
    rcases List.mem_cons.1 h with rfl | h
    · omega
    · have := mem_len h; omega
theorem pgs_plen {l p : List CD} (h : p ∈ pgs l) : p.length ≤ l.length := by have := mem_len h; rwa [pgs_flat] at this
def pageB (p : List CD) : List UInt8 := sealC (numB p.length ++ p.flatMap entB)
def headT (p : List CD) : List VAL := (p.head?.map (·.1)).getD []
def leafB (p : List CD) : List UInt8 := numB (pageB p).length ++ textB (keyB (headT p))
def idxB (ps : List (List CD)) (n : Nat) : List UInt8 := sealC (numB ps.length ++ numB n ++ ps.flatMap leafB)
def low4 (k : Nat) : List UInt8 := [UInt8.ofNat k, UInt8.ofNat (k / 2 ^ 8), UInt8.ofNat (k / 2 ^ 16), UInt8.ofNat (k / 2 ^ 24)]
def tailB (k : Nat) : List UInt8 := sealC (low4 k)
def runB (l : List CD) : List UInt8 := (pgs l).flatMap pageB ++ idxB (pgs l) l.length ++ tailB (idxB (pgs l) l.length).length
theorem numB_le {k : Nat} (h : k ≤ 1000000000) : (numB k).length ≤ 10 := by have := numB_10 (k : Int) Zz; rwa [Int.toNat_natCast] at this
theorem ents_le {p : List CD} (h : Oks p) : (p.flatMap entB).length ≤ p.length * 2200 := len_flat fun q hq => entB_le (h q hq)
theorem pageB_le {p : List CD} (h : Oks p) (hl : p.length ≤ 100) : (pageB p).length ≤ 14 + p.length * 2200 := by
  have a := ents_le h
  have b := numB_le (k := p.length) Zz
  rw [pageB, seal_len, List.length_append]; omega
theorem headT_ok {p : List CD} (h : Oks p) (hT : ∀ q, q ∈ p → isT q.1 = true) : (keyB (headT p)).length ≤ 4160 := by
  cases p with
  | nil => exact (by decide : (0 : Nat) ≤ 4160)
  | cons q p => exact (tup_le (h q List.mem_cons_self).2 (hT q List.mem_cons_self)).2
theorem leafB_le {p : List CD} (h : Oks p) (hT : ∀ q, q ∈ p → isT q.1 = true) (hl : p.length ≤ 100) : (leafB p).length ≤ 4200 := by
  have a := pageB_le h hl
  have b := headT_ok h hT
  have c := numB_le (k := (pageB p).length) Zz
  have d := numB_le (k := (keyB (headT p)).length) Zz
  rw [leafB, textB, List.length_append, List.length_append]; omega
theorem Oks.sub {l p : List CD} (h : Oks l) (hp : ∀ q, q ∈ p → q ∈ l) : Oks p := fun q hq => h q (hp q hq)
theorem isR_T' {l : List CD} (h : isR l = true) : ∀ q, q ∈ l → isT q.1 = true ∧ q.2 ≠ 0 := fun q hq => by
  obtain ⟨i, hi⟩ := List.getElem?_of_mem hq
  have := okAt_t hi (isR_at h i); exact ⟨this.1, this.2.1⟩
theorem flat_sum : ∀ (ps : List (List CD)), (∀ p, p ∈ ps → Oks p ∧ p.length ≤ 100) → (ps.flatMap pageB).length ≤ ps.length * 14 + ps.flatten.length * 2200
  | [], _ => by simp
  | p :: ps, h => by
    have a := pageB_le (h p List.mem_cons_self).1 (h p List.mem_cons_self).2
    have b := flat_sum ps fun q hq => h q (List.mem_cons_of_mem _ hq)
    simp only [List.flatMap_cons, List.flatten_cons, List.length_append, List.length_cons]; omega
theorem run_sizes {l : List CD} (h : Oks l) (hr : isR l = true) (hl : l.length ≤ 100) : ((pgs l).flatMap pageB).length ≤ 222000 ∧ ((pgs l).flatMap leafB).length ≤ 420000 ∧ (idxB (pgs l) l.length).length ≤ 420100 ∧ (runB l).length ≤ 642200 := by
  have hp : ∀ p, p ∈ pgs l → Oks p ∧ p.length ≤ 100 := fun p hp => ⟨h.sub (pgs_sub hp), Nat.le_trans (pgs_plen hp) hl⟩
  have a := flat_sum (pgs l) hp
  rw [pgs_flat] at a
  have b := pgs_len l
  have c := len_flat (f := leafB) (k := 4200) (l := pgs l) fun p q => leafB_le (hp p q).1 (fun x hx => (isR_T' hr x (pgs_sub q x hx)).1) (hp p q).2
  have d := numB_le (k := (pgs l).length) Zz
  have e := numB_le (k := l.length) Zz
  have f : (idxB (pgs l) l.length).length ≤ 420100 := by rw [idxB, seal_len, List.length_append, List.length_append]; omega
  have g : (tailB (idxB (pgs l) l.length).length).length = 8 := by rw [tailB, seal_len]; rfl
  refine ⟨by omega, by omega, f, ?_⟩
  rw [runB, List.length_append, List.length_append, g]; omega
structure Fit (l : List CD) : Prop where
  ok : Oks l
  n : l.length ≤ 4000
  e : (l.flatMap entB).length ≤ 220000
  k : isR l = true → ((pgs l).flatMap leafB).length ≤ 420000
theorem Fit.of {l : List CD} (h : Oks l) (hl : l.length ≤ 100) : Fit l := ⟨h, by omega, by have := ents_le h; omega, fun hr => (run_sizes h hr hl).2.1⟩
theorem flat_mem {α : Type} {f : α → List UInt8} : ∀ {ps : List α} {p : α}, p ∈ ps → (f p).length ≤ (ps.flatMap f).length
  | q :: ps, p, h => by
    rw [List.flatMap_cons, List.length_append]
    rcases List.mem_cons.1 h with rfl | h
    · omega
    · have := flat_mem (f := f) h; omega
theorem flat_cut {α : Type} {f : α → List UInt8} (l : List α) (i : Nat) : (l.flatMap f).length = ((l.take i).flatMap f).length + ((l.drop i).flatMap f).length := by
  rw [← List.length_append, ← List.flatMap_append, List.take_append_drop i l]
theorem flat_take {α : Type} {f : α → List UInt8} (l : List α) (i : Nat) : ((l.take i).flatMap f).length ≤ (l.flatMap f).length := by have := flat_cut (f := f) l i; omega
theorem flat_drop {α : Type} {f : α → List UInt8} (l : List α) (i : Nat) : ((l.drop i).flatMap f).length ≤ (l.flatMap f).length := by have := flat_cut (f := f) l i; omega
theorem flat_flat {α : Type} {f : α → List UInt8} : ∀ (ps : List (List α)), (ps.flatMap fun p => p.flatMap f).length = (ps.flatten.flatMap f).length
  | [] => rfl
  | p :: ps => by simp only [List.flatMap_cons, List.flatten_cons, List.flatMap_append, List.length_append, flat_flat ps]
theorem Fit.page {l p : List CD} (h : Fit l) (hp : p ∈ pgs l) : Oks p ∧ p.length ≤ 4000 ∧ (p.flatMap entB).length ≤ 220000 := by
  refine ⟨h.ok.sub (pgs_sub hp), Nat.le_trans (pgs_plen hp) h.n, ?_⟩
  have := flat_mem (f := fun p : List CD => p.flatMap entB) hp
  rw [flat_flat, pgs_flat] at this
  exact Nat.le_trans this h.e
theorem pageB_fit {p : List CD} (hn : p.length ≤ 4000) (he : (p.flatMap entB).length ≤ 220000) : (pageB p).length ≤ 220014 := by
  have b := numB_le (k := p.length) Zz
  rw [pageB, seal_len, List.length_append]; omega
theorem leafB_fit {p : List CD} (h : Oks p) (hT : ∀ q, q ∈ p → isT q.1 = true) (hn : p.length ≤ 4000) (he : (p.flatMap entB).length ≤ 220000) : (leafB p).length ≤ 4200 := by
  have a := pageB_fit hn he
  have b := headT_ok h hT
  have c := numB_le (k := (pageB p).length) Zz
  have d := numB_le (k := (keyB (headT p)).length) Zz
  rw [leafB, textB, List.length_append, List.length_append]; omega
theorem page_sum : ∀ (ps : List (List CD)), (∀ p, p ∈ ps → p.length ≤ 4000) → (ps.flatMap pageB).length ≤ ps.length * 14 + (ps.flatMap fun p => p.flatMap entB).length
  | [], _ => by simp
  | p :: ps, h => by
    have b := page_sum ps fun q hq => h q (List.mem_cons_of_mem _ hq)
    have a := numB_le (k := p.length) (by have := h p List.mem_cons_self; omega)
    have c : (pageB p).length = (numB p.length).length + (p.flatMap entB).length + 4 := by rw [pageB, seal_len, List.length_append]
    simp only [List.flatMap_cons, List.length_append, List.length_cons]; omega
theorem Fit.sizes {l : List CD} (h : Fit l) (hr : isR l = true) : ((pgs l).flatMap pageB).length ≤ 276000 ∧ ((pgs l).flatMap leafB).length ≤ 420000 ∧ (idxB (pgs l) l.length).length ≤ 420100 ∧ (runB l).length ≤ 696200 := by
  have a := page_sum (pgs l) fun p hp => (h.page hp).2.1
  rw [flat_flat, pgs_flat] at a
  have b := pgs_len l
  have hn := h.n
  have he := h.e
  have c := h.k hr
  have d := numB_le (k := (pgs l).length) Zz
  have e := numB_le (k := l.length) Zz
  have f : (idxB (pgs l) l.length).length ≤ 420100 := by rw [idxB, seal_len, List.length_append, List.length_append]; omega
  have g : (tailB (idxB (pgs l) l.length).length).length = 8 := by rw [tailB, seal_len]; rfl
  refine ⟨by omega, by omega, f, ?_⟩
  rw [runB, List.length_append, List.length_append, g]; omega
theorem NumN_c (k : Nat) (h : k ≤ 1000000000) (w : World) : Ret Tryz.prog 65 #[.int .u64 (k : Int)] w fun v w' => FreshB w w' v (numB k) := by
  have := Num_c (k : Int) Zz Zz w
  rwa [Int.toNat_natCast] at this
theorem sealed_c {lo hi : Nat} {A : Option Addr} {n c : Nat} {l : List CD} (w : World) (hs : Sl KC lo hi w A n l) (hhi : hi ≤ w.heap.size) (hn : n ≤ 4000) (he : (l.flatMap entB).length ≤ 220000) (hok : Oks l) (hnc : n ≤ c) (hTb : TabOk w) : Ret Tryz.prog 63 #[.slice A n c] w fun r w' => FreshB w w' r (pageB l) := by
 obtain ⟨L, hsL, hLl, hLt⟩ := kc_hd hs
 have hsl := hs.len
 have hsb := hs.bound
 refine X.enter Tryz.func63 rfl Tryz.ntmps63 rfl<|Zs<|Zr<|Zoa rfl rfl<|Ze<|Zs<|Zr<|Zoms rfl rfl<|Zo (X.lenSl Zu29 rfl) rfl<|Zo (X.cvI Zu3 Zu154 rfl (X.w_u64 Zz)) rfl<|Zc (X.callE (NumN_c _ Zz _) Zc65 rfl rfl) rfl ?_
 rintro v1 w1 ⟨hM1, hk1⟩
 have hk1' := hk1.size
 refine Zoa rfl rfl<|Ze<|Zs<|Zs<|Zr<|Zoms rfl rfl<|Zo (X.lenSl Zu29 rfl) rfl<|Zom rfl rfl<|Ze<|Zb ?_
 have hM0 := hM1
 refine X.loopL (σ := Nat × Value) (fun s => [(3, s.2), (10, .slice A n c), (11, .int .i64 (n : Int)), (12, .int .i64 (s.1 : Int))]) (fun s w' => s.1 ≤ n ∧ Mine KB 5 (fun k => w.heap.size ≤ k) 0 0 w' s.2 (numB n ++ (l.take s.1).flatMap entB) ∧ Keep w w') (fun s => n - s.1) (0, v1) ⟨rfl, rfl, rfl, rfl, trivial⟩ ⟨by omega, (by simpa using hM0), hk1⟩ ?_
 rintro ⟨i, bv⟩ b w1 ⟨hi, hM, hk⟩ hback
 dsimp only at hi hM
 have hk0 := hk.size
 refine Zs<|Zr<|X.opP X.wN rfl rfl (X.lss rfl rfl) (fun h13 => ?_) (fun h13 => ?_)
 ·obtain ⟨x, hx⟩ : ∃ x, L[i]? = some x := ⟨_, List.getElem?_eq_getElem Zz⟩
  obtain ⟨q, hq, eq, oq, nq, ht⟩ := hLt _ _ hx
  have hbq := entB_le (hok q (List.mem_of_getElem? hq))
  have hbt := flat_take (f := entB) l i
  have hbn := numB_le (k := n) Zz
  refine Ze<|Zs<|Zt rfl<|Zk<|Zs<|Zb<|Zs<|Zr<|Zo (X.idxS (hsL.keep hk) Zu29 Zs92 rfl rfl ⟨by omega, by omega⟩) rfl<|Zo (X.loadSN Zi92 Zs92 (hsL.keep hk) hx rfl (fun _ h => h.1) rfl) rfl<|Zc (X.allocE Zv92 rfl) rfl ?_
  rintro _ w2 ⟨rfl, hB2, hk2, hz2⟩
  refine Zc (X.storeNE Zs92 hB2 rfl rfl rfl rfl (fun u hu => by simp at hu; rcases hu with rfl | rfl <;> rfl)) rfl ?_
  rintro _ w3 ⟨hB3, hx3, hz3⟩
  refine Ze<|Zr<|Zom rfl rfl<|Zo (X.loadNB Zi92 Zs92 hB3 rfl rfl rfl) rfl<|Zc (X.callE (entry_c (q := q) _ (ht.keep ((hk.trans hk2).step hx3 zq34)) Zz (by rw [eq]; exact oq) eq) Tryz.call115 rfl rfl) rfl ?_
  rintro v4 w4 ⟨hM4, hk4⟩
  have hk4' := hk4.size
  have q5 := hM4.slF KB_flat 0 (fun _ _ => Nat.zero_le _)
  obtain ⟨A5, c5, rfl, hc5, hs5⟩ := q5
  refine Zc (X.appE (K := KB) (S := fun k => w.heap.size ≤ k) KB_flat Zu81 E5 rfl rfl (hM.keep ((hk2.step hx3 zq34).trans hk4)) hs5 zq15 zq34) rfl ?_
  rintro v6 w6 ⟨hM6, hx6⟩
  have hx6' := hx6.size
  refine Zoa rfl rfl<|Ze<|Zi<|Zr<|Zo (X.add rfl rfl (X.w_i64 Zz)) rfl<|Zomi rfl rfl<|Ze ?_
  refine hback (i + 1, v6) _ _ ⟨rfl, rfl, rfl, rfl, trivial⟩ ⟨by (try dsimp only); omega, by (try dsimp only); rw [flat_step entB hq, ← List.append_assoc]; exact hM6, ((((hk.trans hk2).step hx3 zq34).trans hk4).step hx6 zq34)⟩ (by (try dsimp only); omega)
 ·have hin : i = n := by omega
  subst hin
  rw [List.take_of_length_le Zz] at hM
  have hbt := he
  have hbn := numB_le (k := i) Zz
  refine Ze<|Zs<|Zf rfl<|Zx rfl<|Zs<|Zr<|Zom rfl rfl ?_
  have q8 := hM.slF KB_flat 0 (fun _ _ => Nat.zero_le _)
  obtain ⟨A8, c8, rfl, hc8, hs8⟩ := q8
  refine Zc (X.callE (Seal_c _ hs8 Zz (by assumption) (by first | omega | (simp only [List.length_append]; omega)) (hTb.keep hk)) Zc67 rfl rfl) rfl ?_
  rintro v7 w7 ⟨hM7, hk7⟩
  have hk7' := hk7.size
  refine Zoa rfl rfl<|Ze<|X.ret1 Tryz.func63 Tryz.results63 rfl ?_
  rw [pageB, hsl]
  exact ⟨hM7.mono (fun k _ hk => by (try simp only [] at *); omega), (hk.trans hk7)⟩
def curL (l : List CD) (i f : Nat) : List CD := (l.take i).drop f
section
variable {l : List CD} {i f : Nat} {q : CD}
theorem curL_len (h : i ≤ l.length) : (curL l i f).length = i - f := by rw [curL, List.length_drop, List.length_take]; omega
theorem curL_snoc (hq : l[i]? = some q) (hf : f ≤ i) : curL l (i + 1) f = curL l i f ++ [q] := by
  have hl := (List.getElem?_eq_some_iff.1 hq).1
  rw [curL, curL, List.take_add_one, hq, List.drop_append_of_le_length (by rw [List.length_take]; omega)]; rfl
theorem curL_one (hq : l[i]? = some q) : curL l (i + 1) i = [q] := by
  rw [curL_snoc hq (Nat.le_refl _), List.eq_nil_of_length_eq_zero (l := curL l i i) (by rw [curL_len (by have := (List.getElem?_eq_some_iff.1 hq).1; omega)]; omega)]; rfl
theorem curL_z (l : List CD) (f : Nat) : curL l 0 f = [] := by simp [curL]
theorem drop_q (hq : l[i]? = some q) : l.drop i = q :: l.drop (i + 1) := by
  obtain ⟨h, e⟩ := List.getElem?_eq_some_iff.1 hq
  rw [List.drop_eq_getElem_cons h, e]
theorem pg_cut (hq : l[i]? = some q) (hf : f < i) (h : 256 < ((curL l i f).flatMap entB).length + (entB q).length) : pgsF (curL l i f) (l.drop i) = curL l i f :: pgsF [q] (l.drop (i + 1)) := by
  have hne : curL l i f ≠ [] := fun e => by
    have := curL_len (f := f) (Nat.le_of_lt (List.getElem?_eq_some_iff.1 hq).1)
    rw [e] at this; simp at this; omega
  rw [drop_q hq, pgsF, if_pos ⟨hne, h⟩]
theorem pg_on (hq : l[i]? = some q) (hf : f ≤ i) (h : ¬ (f < i ∧ 256 < ((curL l i f).flatMap entB).length + (entB q).length)) : pgsF (curL l i f) (l.drop i) = pgsF (curL l (i + 1) f) (l.drop (i + 1)) := by
  rw [curL_snoc hq hf, drop_q hq, pgsF, if_neg]
  intro h2
  refine h ⟨Nat.lt_of_le_of_ne hf fun e => h2.1 ?_, h2.2⟩
  exact List.eq_nil_of_length_eq_zero (by rw [curL_len (Nat.le_of_lt (List.getElem?_eq_some_iff.1 hq).1)]; omega)
theorem pg_end (hf : f < l.length) : pgsF (curL l l.length f) (l.drop l.length) = [curL l l.length f] := by
  rw [List.drop_length, pgsF, if_neg]
  intro e
  have := curL_len (l := l) (f := f) (Nat.le_refl _)
  rw [e] at this; simp at this; omega
theorem pg_none (hf : l.length ≤ f) : pgsF (curL l l.length f) (l.drop l.length) = [] := by
  rw [List.drop_length, pgsF, if_pos]
  exact List.eq_nil_of_length_eq_zero (by rw [curL_len (Nat.le_refl _)]; omega)
end
theorem pages_c (A : Option Addr) (n c : Nat) (w : World) : Ret Tryz.prog 62 #[.slice A n c] w fun r w' => r = .func (.func 114) #[] #[.pointer (some ⟨w.heap.size, 0, none⟩)] ∧ Blk w' w.heap.size [.slice A n c] 29 ∧ Keep w w' ∧ w'.heap.size = w.heap.size + 1 := by
 refine X.enter Tryz.func62 rfl Tryz.ntmps62 rfl<|Zs<|Zr<|Zc (X.boxE rfl rfl) rfl ?_
 rintro _ w1 ⟨rfl, hB1, hk1, hz1⟩
 refine Zoa rfl rfl<|Ze<|Zs<|Zr<|Zo (X.mkFunc rfl) rfl<|Zoa rfl rfl<|Ze<|X.ret1 Tryz.func62 Tryz.results62 rfl ?_
 exact ⟨rfl, hB1, hk1, by omega⟩
theorem pages1_c (yv : Value) (bl : Nat) (U : Nat → Prop) (J : List (List CD) → World → Prop) {lo hi : Nat} {A : Option Addr} {n c : Nat} {l : List CD} (w : World) (hB : Blk w bl [.slice A n c] 29) (hs : Sl KC lo hi w A n l) (hhi : hi ≤ w.heap.size) (hnc : n ≤ c) (hn : n ≤ 4000) (he : (l.flatMap entB).length ≤ 220000) (hok : Oks l) (hUb : ¬ U bl) (hUs : ∀ k, lo ≤ k → k < hi → ¬ U k)
    (hJ0 : J (pgs l) w) (hJ : ∀ ps w1 w2, J ps w1 → Keep w1 w2 → J ps w2) (hy : ∀ p ps w2 A' n' c', J (p :: ps) w2 → p ∈ pgs l → n' ≤ c' → Sl KC lo hi w2 A' n' p → YC Tryz.prog yv [.slice A' n' c'] w2 fun v w3 => v = .bool true ∧ Ext U w2 w3 ∧ J ps w3) :
    Ret Tryz.prog 114 #[yv, .pointer (some ⟨bl, 0, none⟩)] w fun v w' => v = .tuple #[] ∧ J [] w' ∧ Ext U w w' := by
 have hbl := hB.lt
 obtain ⟨L, hsL, hLl, hLt⟩ := kc_hd hs
 have hsl := hs.len
 have hsb := hs.bound
 refine X.enter Tryz.func114 rfl Tryz.ntmps114 rfl<|Zs<|Zr<|Zoa rfl rfl<|Zoa rfl rfl<|Ze<|Zs<|Zs<|Zr<|Zo (X.load1B Zi29 hB rfl rfl) rfl<|Zo (X.lenSl Zu29 rfl) rfl<|Zom rfl rfl<|Ze<|Zb<|X.loopL (σ := Nat × Nat × Int) (fun s => [(0, yv), (1, .pointer (some ⟨bl, 0, none⟩)), (3, .int .i64 (s.2.1 : Int)), (4, .int .i64 s.2.2), (8, .slice A n c), (9, .int .i64 (n : Int)), (10, .int .i64 (s.1 : Int))]) (fun s w' => s.1 ≤ n ∧ s.2.1 ≤ s.1 ∧ s.2.2 = (((curL l s.1 s.2.1).flatMap entB).length : Int) ∧ (∀ p, p ∈ pgsF (curL l s.1 s.2.1) (l.drop s.1) → p ∈ pgs l) ∧ J (pgsF (curL l s.1 s.2.1) (l.drop s.1)) w' ∧ Blk w' bl [.slice A n c] 29 ∧ Ext U w w') (fun s => n - s.1) (0, 0, 0) ⟨rfl, rfl, rfl, rfl, rfl, rfl, rfl, trivial⟩ ⟨by (try dsimp only); omega, Nat.le_refl _, (by rw [curL_z]; rfl), fun p hp => (by rw [curL_z, List.drop_zero] at hp; exact hp), (by rw [curL_z, List.drop_zero]; exact hJ0), hB, Ext.refl _ _⟩ ?_
 rintro ⟨i, f, z⟩ b w1 ⟨hi, hfi, hz, hpm, hJl, hBl, hE⟩ hback
 dsimp only
 dsimp only at hi hfi hz hpm hJl
 have hE' := hE.size
 have hbz : ((curL l i f).flatMap entB).length ≤ 220000 := Nat.le_trans (flat_drop _ _) (Nat.le_trans (flat_take _ _) he)
 refine Zs<|Zr<|X.opP X.wN rfl rfl (X.lss rfl rfl) (fun h11 => ?_) (fun h11 => ?_)
 ·obtain ⟨x, hx⟩ : ∃ x, L[i]? = some x := ⟨_, List.getElem?_eq_getElem Zz⟩
  obtain ⟨q, hq, eq, oq, nq, ht⟩ := hLt _ _ hx
  have hbq := entB_le (hok q (List.mem_of_getElem? hq))
  refine Ze<|Zs<|Zt rfl<|Zk<|Zs<|Zb<|Zs<|Zr<|Zomi rfl rfl<|Zo (X.idxS (hsL.ext hE zq21) Zu29 Zs92 rfl rfl ⟨by omega, by omega⟩) rfl ?_
  refine Zo (X.loadSN Zi92 Zs92 (hsL.ext hE zq21) hx rfl (fun _ h => h.1) rfl) rfl ?_
  refine Zc (X.allocE Zv92 rfl) rfl ?_
  rintro _ w1 ⟨rfl, hB1, hk1, hz1⟩
  refine Zoai rfl rfl<|Zc (X.storeNE Zs92 hB1 rfl rfl rfl rfl (fun u hu => by simp at hu; rcases hu with rfl | rfl <;> rfl)) rfl ?_
  rintro _ w2 ⟨hB2, hx2, hz2⟩
  refine Ze<|Zs<|Zr<|Zo (X.loadNB Zi92 Zs92 hB2 rfl rfl rfl) rfl<|Zc (X.callE (entry_c (q := q) _ ((ht.ext hE zq21).keep (hk1.step hx2 (by intro q g1; have g1 : q = _ := g1; omega))) Zz (by rw [eq]; exact oq) eq) Tryz.call115 rfl rfl) rfl ?_
  rintro v3 w3 ⟨hM3, hk3⟩
  have hk3' := hk3.size
  have q4 := hM3.slF KB_flat 0 (fun _ _ => Nat.zero_le _)
  obtain ⟨A4, c4, rfl, hc4, hs4⟩ := q4
  refine Zo (X.lenSl Zu81 rfl) rfl<|Zoai rfl rfl<|Ze<|Zs<|Zs<|Zr<|Zomi rfl rfl<|Zomi rfl rfl<|X.opP X.wN rfl rfl (X.gtr rfl rfl) (fun h20 => ?_) (fun h20 => ?_)
  ·refine Zomt rfl rfl<|Zg (Zdmi rfl) rfl rfl rfl rfl<|Zg (Zdmi rfl) rfl rfl rfl rfl<|Zg (X.add rfl rfl (X.w_i64 Zz)) rfl rfl rfl rfl<|X.opP (X.wG rfl rfl rfl) rfl rfl (X.gtr rfl rfl) (fun h25 => ?_) (fun h25 => ?_)
   ·have hpc := pg_cut (f := f) hq Zz Zz
    refine Zo (ZdTt rfl rfl) rfl<|Ze<|Zt rfl<|Zs<|Zs<|Zr<|Zom rfl rfl<|Zo (X.load1B Zi29 (hBl.keep ((hk1.step hx2 (by intro q g1; have g1 : q = _ := g1; omega)).trans hk3)) rfl rfl) rfl ?_
    refine Zomi rfl rfl<|Zomi rfl rfl<|Zomi rfl rfl<|Zo (X.cut3E (p := (f : Int)) (q := (i : Int)) (r := (i : Int)) Zu29 Zs92 rfl rfl rfl rfl ⟨by omega, by omega, by omega, by omega⟩) rfl<|Zc ((hy (curL l i f) (pgsF [q] (l.drop (i + 1))) _ _ _ _ (by have := hJ _ _ _ hJl ((hk1.step hx2 (by intro q g1; have g1 : q = _ := g1; omega)).trans hk3); rw [hpc] at this; exact this) (hpm _ (by rw [hpc]; exact List.mem_cons_self)) (Nat.le_refl _) ((((hs.ext hE zq21).keep ((hk1.step hx2 (by intro q g1; have g1 : q = _ := g1; omega)).trans hk3)).take i Zz).drop f i Zz (Nat.le_refl _))) _ _ _ _ _ _ _ _ _ rfl rfl) rfl ?_
    rintro _ w5 ⟨rfl, hx5, hJn⟩
    have hx5' := hx5.size
    refine Zo (X.not_ rfl) rfl<|Ze<|X.condB rfl (fun hc34 => ?_) (fun hc34 => ?_)
    ·exact absurd hc34 (by decide)
    ·refine Zk<|Zr<|Zomi rfl rfl<|Zoai rfl rfl<|Zoa rfl rfl<|Ze<|Zr<|Zomi rfl rfl<|Zomi rfl rfl<|Zo (X.add rfl rfl (X.w_i64 Zz)) rfl<|Zoai rfl rfl<|Ze<|Zi<|Zr<|Zo (X.add rfl rfl (X.w_i64 Zz)) rfl<|Zomi rfl rfl<|Ze ?_
     refine hback (i + 1, i, 0 + ((entB q).length : Int)) _ _ ⟨rfl, rfl, rfl, rfl, rfl, rfl, rfl, trivial⟩ ⟨by (try dsimp only); omega, by (try dsimp only); omega, (by (try dsimp only); rw [curL_one hq]; simp), (by (try dsimp only); rw [curL_one hq]; exact fun p hp => hpm p (by rw [hpc]; exact List.mem_cons_of_mem _ hp)), (by (try dsimp only); rw [curL_one hq]; exact hJn), ((hBl.keep ((hk1.step hx2 (by intro q g1; have g1 : q = _ := g1; omega)).trans hk3)).ext hx5 zq21), (Ext.andThen (Ext.andThen (Ext.andThen (Ext.andThen (Ext.andThen (Ext.refl U _) hE zq26) hk1 zq26) hx2 zq26) hk3 zq26) hx5 zq26)⟩ (by (try dsimp only); omega)
   ·have hpo := pg_on (f := f) hq hfi (by rintro ⟨g1, g2⟩; omega)
    refine Zo (ZdTf rfl rfl) rfl<|Ze<|Zf rfl<|Zk<|Zr<|Zomi rfl rfl<|Zomi rfl rfl<|Zo (X.add rfl rfl (X.w_i64 Zz)) rfl<|Zoai rfl rfl<|Ze<|Zi<|Zr<|Zo (X.add rfl rfl (X.w_i64 Zz)) rfl<|Zomi rfl rfl<|Ze ?_
    refine hback (i + 1, f, z + ((entB q).length : Int)) _ _ ⟨rfl, rfl, rfl, rfl, rfl, rfl, rfl, trivial⟩ ⟨by (try dsimp only); omega, by (try dsimp only); omega, (by (try dsimp only); rw [curL_snoc hq hfi, List.flatMap_append, List.length_append]; simp [hz]), (by (try dsimp only); rw [← hpo]; exact hpm), (by (try dsimp only); rw [← hpo]; exact hJ _ _ _ hJl ((hk1.step hx2 (by intro q g1; have g1 : q = _ := g1; omega)).trans hk3)), (hBl.keep ((hk1.step hx2 (by intro q g1; have g1 : q = _ := g1; omega)).trans hk3)), (Ext.andThen (Ext.andThen (Ext.andThen (Ext.andThen (Ext.refl U _) hE zq26) hk1 zq26) hx2 zq26) hk3 zq26)⟩ (by (try dsimp only); omega)
  ·have hpo := pg_on (f := f) hq hfi (by rintro ⟨g1, g2⟩; omega)
   refine Zomf rfl rfl<|Zp rfl rfl rfl<|Zp rfl rfl rfl<|Zp rfl rfl rfl<|Zp rfl rfl rfl<|Zo (ZdFf rfl rfl) rfl<|Ze<|Zf rfl<|Zk<|Zr<|Zomi rfl rfl<|Zomi rfl rfl<|Zo (X.add rfl rfl (X.w_i64 Zz)) rfl<|Zoai rfl rfl<|Ze<|Zi<|Zr<|Zo (X.add rfl rfl (X.w_i64 Zz)) rfl<|Zomi rfl rfl<|Ze ?_
   refine hback (i + 1, f, z + ((entB q).length : Int)) _ _ ⟨rfl, rfl, rfl, rfl, rfl, rfl, rfl, trivial⟩ ⟨by (try dsimp only); omega, by (try dsimp only); omega, (by (try dsimp only); rw [curL_snoc hq hfi, List.flatMap_append, List.length_append]; simp [hz]), (by (try dsimp only); rw [← hpo]; exact hpm), (by (try dsimp only); rw [← hpo]; exact hJ _ _ _ hJl ((hk1.step hx2 (by intro q g1; have g1 : q = _ := g1; omega)).trans hk3)), (hBl.keep ((hk1.step hx2 (by intro q g1; have g1 : q = _ := g1; omega)).trans hk3)), (Ext.andThen (Ext.andThen (Ext.andThen (Ext.andThen (Ext.refl U _) hE zq26) hk1 zq26) hx2 zq26) hk3 zq26)⟩ (by (try dsimp only); omega)
 ·refine Ze<|Zs<|Zf rfl<|Zx rfl<|Zs<|Zr<|Zomi rfl rfl<|Zo (X.load1B Zi29 hBl rfl rfl) rfl<|Zo (X.lenSl Zu29 rfl) rfl<|X.opP X.wN rfl rfl (X.lss rfl rfl) (fun h43 => ?_) (fun h43 => ?_)
  ·have hpe : pgsF (curL l i f) (l.drop i) = [curL l i f] := by
     have e : i = l.length := by omega
     rw [e]; exact pg_end Zz
   have hin : i = n := by omega
   subst hin
   refine Ze<|Zt rfl<|Zr<|Zom rfl rfl<|Zo (X.load1B Zi29 hBl rfl rfl) rfl<|Zomi rfl rfl<|Zo (X.cutL (m := (f : Int)) Zu29 Zs92 rfl rfl ⟨by omega, by omega⟩) rfl<|Zc ((hy (curL l i f) [] _ _ _ _ (by have := hJ _ _ _ hJl (Keep.refl _); rw [hpe] at this; exact this) (hpm _ (by rw [hpe]; exact List.mem_singleton_self _)) Zz (by have := (hs.ext hE zq21).drop f c Zz hnc; rw [curL, List.take_of_length_le Zz]; exact this)) _ _ _ _ _ _ _ _ _ rfl rfl) rfl ?_
   rintro _ w6 ⟨rfl, hx6, hJn⟩
   have hx6' := hx6.size
   refine Ze<|X.end0 Tryz.func114 Tryz.results114 ?_
   exact ⟨rfl, hJn, (Ext.andThen (Ext.andThen (Ext.refl U _) hE zq26) hx6 zq26)⟩
  ·refine Ze<|Zf rfl<|Zk<|X.end0 Tryz.func114 Tryz.results114 ?_
   have hpn : pgsF (curL l i f) (l.drop i) = [] := by
     have e : i = l.length := by omega
     rw [e]; exact pg_none Zz
   rw [hpn] at hJl
   exact ⟨rfl, hJ _ _ _ hJl (Keep.refl _), (Ext.andThen (Ext.refl U _) hE zq26)⟩
structure R2 (tb base m1 m2 : Nat) (S1 S2 : Nat → Prop) (w : World) (va vb : Value) (la lb : List UInt8) : Prop where
  a : Mine KB tb S1 0 0 w va la
  e : Mine KB tb S2 0 0 w vb lb
  s1 : ∀ k, S1 k → base ≤ k ∧ k < m1
  s2 : ∀ k, S2 k → base ≤ k ∧ k < m2
  l1 : m1 ≤ w.heap.size
  l2 : m2 ≤ w.heap.size
  d12 : ∀ k, S1 k → ¬ S2 k
  b : base ≤ w.heap.size
section
variable {tb base m1 m2 : Nat} {S1 S2 : Nat → Prop} {w w' : World} {va vb : Value} {la lb : List UInt8}
theorem R2.nil (tb base m : Nat) (w : World) (hb : base ≤ w.heap.size) (hm : m ≤ w.heap.size) : R2 tb base m m (fun _ => False) (fun _ => False) w (.slice none 0 0) (.slice none 0 0) [] [] :=
  ⟨Mine.nil _ _ _ _ _ _, Mine.nil _ _ _ _ _ _, fun _ h => h.elim, fun _ h => h.elim, hm, hm, fun _ h => h.elim, hb⟩
theorem R2.keep (h : R2 tb base m1 m2 S1 S2 w va vb la lb) (x : Keep w w') : R2 tb base m1 m2 S1 S2 w' va vb la lb := by
  obtain ⟨a, e, s1, s2, l1, l2, d12, b⟩ := h
  have hz := x.size
  exact ⟨a.keep x, e.keep x, s1, s2, by omega, by omega, d12, by omega⟩
theorem R2.ext (h : R2 tb base m1 m2 S1 S2 w va vb la lb) {T : Nat → Prop} (x : Ext T w w') (hT : ∀ k, T k → k < base ∨ (m1 ≤ k ∧ m2 ≤ k)) : R2 tb base m1 m2 S1 S2 w' va vb la lb := by
  obtain ⟨a, e, s1, s2, l1, l2, d12, b⟩ := h
  have hz := x.size
  refine ⟨a.ext x (by intro k h1 h2; omega) ?_, e.ext x (by intro k h1 h2; omega) ?_, s1, s2, by omega, by omega, d12, by omega⟩
  · intro k h1 h2; have := s1 k h1; have := hT k h2; omega
  · intro k h1 h2; have := s2 k h1; have := hT k h2; omega
theorem R2.all (h : R2 tb base m1 m2 S1 S2 w va vb la lb) : R2 tb base w.heap.size w.heap.size S1 S2 w va vb la lb := by
  obtain ⟨a, e, s1, s2, l1, l2, d12, b⟩ := h
  exact ⟨a, e, fun k h => by have := s1 k h; omega, fun k h => by have := s2 k h; omega, Nat.le_refl _, Nat.le_refl _, d12, b⟩
theorem R2.rd (h : R2 tb base m1 m2 S1 S2 w va vb la lb) : ∃ A1 c1 A2 c2, va = .slice A1 la.length c1 ∧ vb = .slice A2 lb.length c2 ∧ la.length ≤ c1 ∧ lb.length ≤ c2 ∧ Sl KB base m1 w A1 la.length la ∧ Sl KB base m2 w A2 lb.length lb := by
  obtain ⟨a, e, s1, s2, _⟩ := h
  obtain ⟨A1, c1, e1, g1, r1⟩ := (a.flat KB_flat (lo' := base) (hi' := m1)).sl (fun k _ h => s1 k h)
  obtain ⟨A2, c2, e2, g2, r2⟩ := (e.flat KB_flat (lo' := base) (hi' := m2)).sl (fun k _ h => s2 k h)
  exact ⟨A1, c1, A2, c2, e1, e2, g1, g2, r1, r2⟩
variable {P : Program} {ρ : Operand → Value} {dst : Option Tmp} {ty : TypeId} {pos : String} {aft : Array Edge} {g : Option (Nat × Bool)} {T : TypeId} {s x : Operand} {A : Option Addr} {n c lo hi bytes : Nat}
theorem R2.appA {ys : List UInt8} (h : R2 tb base m1 m2 S1 S2 w va vb la lb) (hS : Sl KB lo hi w A n ys) (hT : P.underlying T = some (.slice tb)) (hI : ElemInfo P tb 1 bytes) (hs : ρ s = va) (hx : ρ x = .slice A n c) (hmax : (la.length + ys.length) * bytes ≤ 140737488355328) :
    DoesE P ⟨dst, .call ⟨.builtin .append, #[s, x], #[T, T]⟩, ty, pos, aft, g⟩ ρ w fun v' w' => ∃ A' c' S', v' = .slice A' (la ++ ys).length c' ∧ R2 tb base w'.heap.size m2 S' S2 w' v' vb (la ++ ys) lb ∧ Ext (fun k => base ≤ k ∧ k < m1) w w' := by
  obtain ⟨a, e, s1, s2, l1, l2, d12, b⟩ := h
  refine (appRow (K := KB) KB_flat hT hI hs hx a (fun k hk => by have := s1 k hk; omega) hS hmax).mono fun v' w' ⟨h1, h2⟩ => ?_
  have hz := h2.size
  obtain ⟨A', c', e1, _⟩ := h1.slice
  refine ⟨A', c', _, e1, ⟨h1, e.ext h2 (by intro k h1 h2; omega) (fun k h3 h4 => d12 k h4 h3), ?_, s2, Nat.le_refl _, by omega, ?_, by omega⟩, h2.mono fun k _ hk => s1 k hk⟩
  · rintro k (h | ⟨h, h'⟩)
    · have := s1 k h; omega
    · omega
  · rintro k (h | ⟨h, h'⟩) h3
    · exact d12 k h h3
    · have := s2 k h3; omega
theorem R2.appB {ys : List UInt8} (h : R2 tb base m1 m2 S1 S2 w va vb la lb) (hS : Sl KB lo hi w A n ys) (hT : P.underlying T = some (.slice tb)) (hI : ElemInfo P tb 1 bytes) (hs : ρ s = vb) (hx : ρ x = .slice A n c) (hmax : (lb.length + ys.length) * bytes ≤ 140737488355328) :
    DoesE P ⟨dst, .call ⟨.builtin .append, #[s, x], #[T, T]⟩, ty, pos, aft, g⟩ ρ w fun v' w' => ∃ A' c' S', v' = .slice A' (lb ++ ys).length c' ∧ R2 tb base m1 w'.heap.size S1 S' w' va v' la (lb ++ ys) ∧ Ext (fun k => base ≤ k ∧ k < m2) w w' := by
  obtain ⟨a, e, s1, s2, l1, l2, d12, b⟩ := h
  refine (appRow (K := KB) KB_flat hT hI hs hx e (fun k hk => by have := s2 k hk; omega) hS hmax).mono fun v' w' ⟨h1, h2⟩ => ?_
  have hz := h2.size
  obtain ⟨A', c', e1, _⟩ := h1.slice
  refine ⟨A', c', _, e1, ⟨a.ext h2 (by intro k h1 h2; omega) (fun k h3 h4 => d12 k h3 h4), h1, s1, ?_, by omega, Nat.le_refl _, ?_, by omega⟩, h2.mono fun k _ hk => s2 k hk⟩
  · rintro k (h | ⟨h, h'⟩)
    · have := s2 k h; omega
    · omega
  · rintro k h3 (h | ⟨h, h'⟩)
    · exact d12 k h3 h
    · have := s1 k h3; omega
end
theorem kv_head {l : List CD} {x : CT} {q : CD} (h : l[0]? = some q) : headT l = q.1 := by
  cases l with
  | nil => cases h
  | cons y l => cases h; rfl
theorem shrI (a k : Nat) (hk : k ≤ 32) : ((a : Nat) : Int).fdiv (2 ^ (min ((k : Int)).toNat IntKind.i64.bits)) = ((a / 2 ^ k : Nat) : Int) := by
  have h : min ((k : Int)).toNat IntKind.i64.bits = k := by show min ((k : Int)).toNat 64 = k; omega
  have e : (2 : Int) ^ k = ((2 ^ k : Nat) : Int) := by rw [Int.natCast_pow]; rfl
  rw [h, e, Int.fdiv_eq_ediv_of_nonneg _ (Int.natCast_nonneg _)]
  rfl
theorem tail_0 (x : Nat) : IntKind.u8.wrap (x : Int) = ((UInt8.ofNat x).toNat : Int) := by
  rw [show IntKind.u8.wrap (x : Int) = (x : Int) % 256 from rfl]
  rw [UInt8.toNat_ofNat']; omega
theorem tail_at (x j : Nat) : IntKind.u8.wrap ((x / 2 ^ j : Nat) : Int) = ((UInt8.ofNat (x / 2 ^ j)).toNat : Int) := by
  rw [show IntKind.u8.wrap ((x / 2 ^ j : Nat) : Int) = ((x / 2 ^ j : Nat) : Int) % 256 from rfl]
  rw [UInt8.toNat_ofNat']; omega
theorem Bytes_F {lo hi : Nat} {A : Option Addr} {n c : Nat} {l : List CD} (w : World) (hs : Sl KC lo hi w A n l) (hhi : hi ≤ w.heap.size) (hnc : n ≤ c) (hF : Fit l) (hTb : TabOk w) : Ret Tryz.prog 31 #[.slice A n c] w fun r w' => ∃ v, r = .tuple #[v, .int .i64 (if isR l then 0 else 70)] ∧ FreshB w w' v (if isR l then runB l else []) := by
 obtain ⟨L, hsL, hLl, hLt⟩ := kc_hd hs
 have hsl := hs.len
 have hsb := hs.bound
 subst hsl
 have htl := hTb.lt
 have hok := hF.ok
 have hn := hF.n
 refine X.enter Zf31 rfl Tryz.ntmps31 rfl<|Zs<|Zr<|Zoa rfl rfl<|Zoa rfl rfl<|Ze<|Zs<|Zs<|Zr<|Zoms rfl rfl<|Zc (X.callE (rCheck_c _ hs Zz) Tryz.call61 rfl rfl) rfl ?_
 rintro _ w1 ⟨rfl, hk1⟩
 have hk1' := hk1.size
 refine Zoai rfl rfl<|Ze<|Zs<|Zr<|Zomi rfl rfl<|X.opP X.wN rfl rfl (X.neI rfl rfl) (fun h18 => ?_) (fun h18 => ?_)
 ·have hr : isR l = false := by
    cases hq : isR l with
    | false => rfl
    | true => rw [hq] at h18; exact absurd rfl h18
  refine Ze<|Zt rfl<|Zs<|Zr<|Zomi rfl rfl<|Zoa rfl rfl<|Zoai rfl rfl<|Ze<|X.ret2 (v2 := (.int .i64 _)) Zf31 Tryz.results31 rfl rfl ?_
  rw [hr]
  exact ⟨_, rfl, Mine.nil _ _ _ _ _ _, hk1⟩
 ·have hr : isR l = true := by
    cases hq : isR l with
    | true => rfl
    | false => rw [hq] at h18; exact absurd (by decide : ¬ (70 : Int) = 0) h18
  refine Ze<|Zf rfl<|Zk<|Zs<|Zr<|Zc (X.allocE Tryz.zeroValue81 rfl) rfl ?_
  rintro _ w2 ⟨rfl, hB2, hk2, hz2⟩
  refine Zc (X.allocE Tryz.zeroValue81 rfl) rfl ?_
  rintro _ w3 ⟨rfl, hB3, hk3, hz3⟩
  refine Ze<|Zs<|Zr<|Zc (X.allocE Zv3 rfl) rfl ?_
  rintro _ w4 ⟨rfl, hB4, hk4, hz4⟩
  refine Zc (X.storeE Zs3 hB4 rfl rfl rfl rfl) rfl ?_
  rintro _ w5 ⟨hB5, hx5, hz5⟩
  refine Ze<|Zs<|Zs<|Zr<|Zoms rfl rfl<|Zc (X.callE (pages_c _ _ _ _) Tryz.call62 rfl rfl) rfl ?_
  rintro _ w6 ⟨rfl, hB6, hk6, hz6⟩
  refine Ze<|Zb ?_
  refine X.rangeFunc' (cap := [.pointer (some ⟨w5.heap.size, 0, none⟩)]) (Q := fun w' => ∃ vb vl S1 S2, ∃ done : List (List CD), done = pgs l ∧ Blk w' w1.heap.size [vb] 81 ∧ Blk w' w2.heap.size [vl] 81 ∧ Blk w' w3.heap.size [.int .i64 (done.length : Int)] 3 ∧ R2 5 (w6.heap.size + 2) w'.heap.size w'.heap.size S1 S2 w' vb vl (done.flatMap pageB) (done.flatMap leafB) ∧ w'.heap[w6.heap.size]? = some (.deferred (some [])) ∧ Ext (fun k => w.heap.size ≤ k) w w' ∧ (w6.heap.size + 2) ≤ w'.heap.size) rfl Tryz.call114 rfl rfl (fun rec wq T0 hr1 hr2 hr3 hr4 hrT hr5 hr6 hr7 hrl hrd kq zq => ?_) ?_
  ·have zq' : wq.heap.size = w6.heap.size + 2 := zq
   refine (pages1_c _ w5.heap.size (fun k => w.heap.size ≤ k ∧ k ≠ w5.heap.size) (fun ps w' => ∃ vb vl S1 S2, ∃ done : List (List CD), done ++ ps = pgs l ∧ Blk w' w1.heap.size [vb] 81 ∧ Blk w' w2.heap.size [vl] 81 ∧ Blk w' w3.heap.size [.int .i64 (done.length : Int)] 3 ∧ R2 5 (w6.heap.size + 2) w'.heap.size w'.heap.size S1 S2 w' vb vl (done.flatMap pageB) (done.flatMap leafB) ∧ w'.heap[(w6.heap.size + 1)]? = some (.loop rec) ∧ w'.heap[w6.heap.size]? = some (.deferred (some [])) ∧ Ext (fun k => w.heap.size ≤ k) w w' ∧ (w6.heap.size + 2) ≤ w'.heap.size) wq (hB6.keep kq) ((hs.keep (((((hk1.trans hk2).trans hk3).trans hk4).step hx5 zq34).trans hk6)).keep kq) Zz hnc Zz hF.e hok (fun h => h.2 rfl) (fun k h1 h2 h3 => by have h3 : _ ≤ k ∧ _ := h3; omega) ?_ ?_ ?_).mono ?_
   ·exact ⟨_, _, _, _, [], rfl, (hB2.keep (((hk3.trans hk4).step hx5 zq34).trans hk6)).keep kq, (hB3.keep ((hk4.step hx5 zq34).trans hk6)).keep kq, (hB5.keep hk6).keep kq, R2.nil _ _ _ _ Zz (Nat.le_refl _), hrl, hrd, (((((((hk1.trans hk2).trans hk3).trans hk4).step hx5 zq34).trans hk6)).trans kq).mono (fun _ _ h => h.elim), by omega⟩
   ·rintro ps wu wv ⟨vb, vl, S1, S2, done, h1, h2, h3, h4, hR, h5, h6, h7, h8⟩ x
    have hxz := x.size
    exact ⟨vb, vl, S1, S2, done, h1, h2.keep x, h3.keep x, h4.keep x, (hR.keep x).all, (x.keep _ (Array.getElem?_eq_some_iff.1 h5).1 id).trans h5, (x.keep _ (Array.getElem?_eq_some_iff.1 h6).1 id).trans h6, h7.trans x (fun _ _ h => h) (fun _ _ h => h.elim), by omega⟩
   ·rintro p ps wu Ap np cp ⟨vb, vl, S1, S2, done, h1, h2, h3, h4, hR, h5, h6, h7, h8⟩ hpm hnp hsp
    have hxu := h7.size
    have hpl := hsp.len
    have hp0 := List.length_pos_iff.2 (pgs_ne hpm)
    have hp1 := pgs_plen hpm
    have hokp : Oks p := hok.sub (pgs_sub hpm)
    have hpe := (hF.page hpm).2.2
    have hTu : TabOk wu := hTb.ext h7 (fun h => by have h : _ ≤ _ := h; omega)
    obtain ⟨Lp, hsLp, hLpl, hLpt⟩ := kc_hd hsp
    have hsLl := hsLp.len
    obtain ⟨x, hx⟩ : ∃ x, Lp[0]? = some x := ⟨_, List.getElem?_eq_getElem Zz⟩
    obtain ⟨q, hq, eq, oq, nq, ht⟩ := hLpt _ _ hx
    have hqT := isR_T' hr q (pgs_sub hpm q (List.mem_of_getElem? hq))
    have hqk := (tup_le (hokp q (List.mem_of_getElem? hq)).2 hqT.1).2
    have hpb := pageB_fit (p := p) Zz hpe
    have hlb := leafB_fit hokp (fun z hz => (isR_T' hr z (pgs_sub hpm z hz)).1) Zz hpe
    obtain ⟨z1, z2, z3, z4⟩ := hF.sizes hr
    have hd1 : (done.flatMap pageB).length ≤ 276000 := by rw [← h1] at z1; simp only [List.flatMap_append, List.length_append] at z1; omega
    have hd2 : (done.flatMap leafB).length ≤ 420000 := by rw [← h1] at z2; simp only [List.flatMap_append, List.length_append] at z2; omega
    have hd3 : done.length ≤ 4000 := by have := pgs_len l; rw [← h1, List.length_append] at this; omega
    have hn1 := numB_le (k := (pageB p).length) Zz
    have hn2 := textB_len (l := keyB q.1) Zz
    have hkT : (if isT q.1 = true then keyB q.1 else []) = keyB q.1 := if_pos hqT.1
    refine YC.round (r := rec) (N := 78) h5 (by rw [hr5]; rfl) (by rw [hr5, hr4, fold1]; exact hrT.put 22 _ (by decide)) ?_
    rw [hr3, hr6, hr7]
    refine Zr<|Zoa rfl rfl<|Ze ?_
    refine X.beginRound' (r := rec) h5 hr1 (fun wb hLb hxb hzb => ?_)
    have hxb' := hxb.size
    refine Zb<|Zs<|Zr<|Zom rfl rfl<|Zc (X.callE (sealed_c _ (hsp.ext hxb zq1) Zz Zz hpe hokp hnp (hTu.ext hxb zq1)) Tryz.call63 rfl rfl) rfl ?_
    rintro v7 w7 ⟨hM7, hk7⟩
    have hk7' := hk7.size
    refine Zoa rfl rfl<|Ze<|Zs<|Zr<|Zom rfl rfl<|Zo (X.idxS ((hsLp.ext hxb zq1).keep hk7) Zu29 Zs92 rfl rfl ⟨by omega, by omega⟩) rfl ?_
    refine Zo (X.fldA Zu92 rfl rfl Zs90) rfl<|Zo (X.loadSf (o := 0) Zi90 ((hsLp.ext hxb zq1).keep hk7) (j := 0) hx rfl (fun _ h => by rw [h.1]; rfl)) rfl ?_
    refine Zc (X.callE (Key_c _ ((ht.ext hxb zq1).keep hk7) Zz) Tryz.call64 rfl rfl) rfl ?_
    rintro _ w8 ⟨v8, rfl, hM8, hk8⟩
    rw [hkT] at hM8
    have hk8' := hk8.size
    refine Zom rfl rfl<|Zo (X.extr rfl rfl) rfl<|Zo (X.extr rfl rfl) rfl<|Zoa rfl rfl<|Zoai rfl rfl<|Ze<|Zs<|Zr<|Zo (X.load1B Zi81 ((h2.ext hxb zq1).keep (hk7.trans hk8)) rfl rfl) rfl ?_
    refine Zom rfl rfl ?_
    have q10 := (hM7.keep hk8).slF KB_flat 0 (fun _ _ => Nat.zero_le _)
    obtain ⟨A10, c10, rfl, hc10, hs10⟩ := q10
    refine Zc (R2.appA ((hR.ext hxb zq1).keep (hk7.trans hk8)) hs10 Zu81 E5 rfl rfl (by first | omega | (simp only [List.length_append, seal_len, List.length_cons, List.length_nil]; omega))) rfl ?_
    rintro _ w9 ⟨Aq9, cq9, S9, rfl, hR9, hx9⟩
    have hx9' := hx9.size
    refine Zc (X.storeE Tryz.sizeOf81 (((h2.ext hxb zq1).keep (hk7.trans hk8)).ext hx9 zq1) rfl rfl rfl rfl) rfl ?_
    rintro _ w11 ⟨hB11, hx11, hz11⟩
    refine Ze<|Zs<|X.regionD (fun k => w6.heap.size + 2 ≤ k) 9 Zl Zl (fun w12 hk12 hz12 => ?_)
    refine ZD 0 rfl Zl (fun w' hk' => X.load1B Zi81 ((((((h3.ext hxb zq1).keep (hk7.trans hk8)).ext hx9 zq1).ext hx11 zq1).keep hk12).ext hk' zq1) rfl rfl) ?_
    refine ZDc 1 rfl Zl (X.move rfl)<|ZDc 2 rfl Zl (X.lenSl Zu81 rfl)<|ZDc 3 rfl Zl (X.cvI Zu3 Zu154 rfl (X.w_u64 Zz))<|ZDc 6 rfl Zl (X.move rfl)<|X.dE (i := 4) Zl rfl (X.dwN rfl) (X.callE (NumN_c _ Zz _) Zc65 rfl rfl) (by rintro v13 w13 ⟨hM13, hk13⟩ _; exact hk13.mono (fun _ _ h => h.elim)) ?_
    rintro v13 w13 ⟨hM13, hk13⟩
    have hk13' := hk13.size
    have q15 := hM13.slF KB_flat 0 (fun _ _ => Nat.zero_le _)
    obtain ⟨A15, c15, rfl, hc15, hs15⟩ := q15
    refine X.dE (i := 5) Zl rfl (X.dwN rfl) (R2.appB ((hR9.ext hx11 zq1).keep (hk12.trans hk13)) hs15 Zu81 E5 rfl rfl (by first | omega | (simp only [List.length_append, seal_len, List.length_cons, List.length_nil]; omega))) (by rintro _ w14 ⟨Aq14, cq14, S14, rfl, hR14, hx14⟩ _; exact hx14.mono (fun k _ h => by (try simp only [] at *); omega)) ?_
    rintro _ w14 ⟨Aq14, cq14, S14, rfl, hR14, hx14⟩
    have hx14' := hx14.size
    have q17 := ((((hM8.ext hx9 zq1 zq1).ext hx11 zq1 zq1).keep (hk12.trans hk13)).ext hx14 zq1 zq1).slF KB_flat 0 (fun _ _ => Nat.zero_le _)
    obtain ⟨A17, c17, rfl, hc17, hs17⟩ := q17
    refine X.dE (i := 7) Zl rfl (X.dwN rfl) (X.callE (Text_c _ hs17 Zz) Tryz.call66 rfl rfl) (by rintro v16 w16 ⟨hM16, hk16⟩ _; exact hk16.mono (fun _ _ h => h.elim)) ?_
    rintro v16 w16 ⟨hM16, hk16⟩
    have hk16' := hk16.size
    have q19 := hM16.slF KB_flat 0 (fun _ _ => Nat.zero_le _)
    obtain ⟨A19, c19, rfl, hc19, hs19⟩ := q19
    refine X.dE (i := 8) Zl rfl (X.dwN rfl) (R2.appB (hR14.keep hk16) hs19 Zu81 E5 rfl rfl (by first | omega | (simp only [List.length_append, seal_len, List.length_cons, List.length_nil]; omega))) (by rintro _ w18 ⟨Aq18, cq18, S18, rfl, hR18, hx18⟩ _; exact hx18.mono (fun k _ h => by (try simp only [] at *); omega)) ?_
    rintro _ w18 ⟨Aq18, cq18, S18, rfl, hR18, hx18⟩
    have hx18' := hx18.size
    refine X.dE (i := 9) Zl rfl (X.dwN rfl) (X.storeE Tryz.sizeOf81 ((((((((h3.ext hxb zq1).keep (hk7.trans hk8)).ext hx9 zq1).ext hx11 zq1).keep (hk12.trans hk13)).ext hx14 zq1).keep hk16).ext hx18 zq1) rfl rfl rfl rfl) (fun _ _ _ h => absurd h (by decide)) ?_
    rintro _ w20 ⟨hB20, hx20, hz20⟩
    refine Zdend Zl<|Zr<|Zo (X.load1B Zi3 (((((((((h4.ext hxb zq1).keep (hk7.trans hk8)).ext hx9 zq1).ext hx11 zq1).keep (hk12.trans hk13)).ext hx14 zq1).keep hk16).ext hx18 zq1).ext hx20 zq1) rfl rfl) rfl ?_
    refine Zo (X.add rfl rfl (X.w_i64 Zz)) rfl<|Zc (X.storeE Zs3 (((((((((h4.ext hxb zq1).keep (hk7.trans hk8)).ext hx9 zq1).ext hx11 zq1).keep (hk12.trans hk13)).ext hx14 zq1).keep hk16).ext hx18 zq1).ext hx20 zq1) rfl rfl rfl rfl) rfl ?_
    rintro _ w21 ⟨hB21, hx21, hz21⟩
    refine Ze<|Zi ?_
    refine X.endRound' (r := rec) ((hx21.keep _ Zz zq19).trans ((hx20.keep _ Zz zq19).trans ((hx18.keep _ Zz zq19).trans ((hk16.keep _ Zz id).trans ((hx14.keep _ Zz zq19).trans ((hk13.keep _ Zz id).trans ((hk12.keep _ Zz id).trans ((hx11.keep _ Zz zq19).trans ((hx9.keep _ Zz zq19).trans ((hk8.keep _ Zz id).trans ((hk7.keep _ Zz id).trans hLb))))))))))) hr1 hr2 (fun we hLe hxe hze => ?_)
    have hex := (Ext.andThen (Ext.andThen (Ext.andThen (Ext.andThen (Ext.andThen (Ext.andThen (Ext.andThen (Ext.andThen (Ext.andThen (Ext.andThen (Ext.andThen (Ext.andThen (Ext.andThen (Ext.refl (fun k => w.heap.size ≤ k ∧ k ≠ w5.heap.size) _) hxb zq18) hk7 zq18) hk8 zq18) hx9 zq18) hx11 zq18) hk12 zq18) hk13 zq18) hx14 zq18) hk16 zq18) hx18 zq18) hx20 zq18) hx21 zq18) hxe zq18)
    exact ⟨rfl, hex, _, _, _, _, done ++ [p], by rw [← h1]; simp, (((((((hB11.keep (hk12.trans hk13)).ext hx14 zq1).keep hk16).ext hx18 zq1).ext hx20 zq1).ext hx21 zq1).ext hxe zq1), ((hB20.ext hx21 zq1).ext hxe zq1), (by rw [List.length_append, List.length_singleton, Int.natCast_add]; exact (hB21.ext hxe zq1)), (by rw [List.flatMap_append, List.flatMap_append, List.flatMap_cons, List.flatMap_cons, List.flatMap_nil, List.flatMap_nil, List.append_nil, List.append_nil, leafB, kv_head (x := x) hq, ← List.append_assoc]; exact (((hR18.ext hx20 zq1).ext hx21 zq1).ext hxe zq1).all), hLe, ((hxe.keep _ Zz zq19).trans ((hx21.keep _ Zz zq19).trans ((hx20.keep _ Zz zq19).trans ((hx18.keep _ Zz zq19).trans ((hk16.keep _ Zz id).trans ((hx14.keep _ Zz zq19).trans ((hk13.keep _ Zz id).trans ((hk12.keep _ Zz id).trans ((hx11.keep _ Zz zq19).trans ((hx9.keep _ Zz zq19).trans ((hk8.keep _ Zz id).trans ((hk7.keep _ Zz id).trans ((hxb.keep _ Zz zq19).trans h6))))))))))))), h7.trans hex (fun _ _ h => h) (fun k _ h => h.1), by omega⟩
   ·rintro v wz ⟨_, ⟨vb, vl, S1, S2, done, h1, h2, h3, h4, hR, h5, h6, h7, h8⟩, hxq⟩
    rw [List.append_nil] at h1
    exact ⟨⟨rec, h5, by rw [hr1]; simp, hr2⟩, vb, vl, S1, S2, done, h1, h2, h3, h4, hR, h6, h7, h8⟩
  ·rintro wz we ⟨vb, vl, S1, S2, done, h1, h2, h3, h4, hR, h6, h7, h8⟩ hxe hze
   subst h1
   obtain ⟨hdf, _⟩ := Array.getElem?_eq_some_iff.1 h6
   have hxz := h7.size
   obtain ⟨z1, z2, z3, z4⟩ := hF.sizes hr
   have z5 := pgs_len l
   have z6 := numB_le (k := (pgs l).length) Zz
   have z7 := numB_le (k := l.length) Zz
   have hTz : TabOk wz := hTb.ext h7 (fun h => by have h : _ ≤ _ := h; omega)
   have hkz : Keep w wz := h7.mono fun k hk h => by have h : _ ≤ k := h; omega
   refine Zi<|Zs<|X.regionD (fun k => w6.heap.size + 2 ≤ k) 11 Zl Zl (fun w22 hk22 hz22 => ?_)
   refine ZD 0 rfl Zl (fun w' hk' => X.load1B Zi3 (((h4.ext hxe zq1).keep hk22).ext hk' zq1) rfl rfl) ?_
   refine ZDc 1 rfl Zl (X.cvI Zu3 Zu154 rfl (X.w_u64 Zz))<|ZDc 3 rfl Zl (X.move rfl)<|ZDc 4 rfl Zl (X.lenSl Zu29 rfl)<|ZDc 5 rfl Zl (X.cvI Zu3 Zu154 rfl (X.w_u64 Zz))<|ZD 8 rfl Zl (fun w' hk' => X.load1B Zi81 (((h3.ext hxe zq1).keep hk22).ext hk' zq1) rfl rfl) ?_
   obtain ⟨Ar1, cr1, Ar2, cr2, rfl, rfl, hcr1, hcr2, hsr1, hsr2⟩ := ((hR.ext hxe zq1).keep hk22).rd
   refine X.dE (i := 2) Zl rfl (X.dwN rfl) (X.callE (NumN_c _ Zz _) Zc65 rfl rfl) (by rintro v23 w23 ⟨hM23, hk23⟩ _; exact hk23.mono (fun _ _ h => h.elim)) ?_
   rintro v23 w23 ⟨hM23, hk23⟩
   have hk23' := hk23.size
   refine X.dE (i := 6) Zl rfl (X.dwN rfl) (X.callE (NumN_c _ Zz _) Zc65 rfl rfl) (by rintro v24 w24 ⟨hM24, hk24⟩ _; exact hk24.mono (fun _ _ h => h.elim)) ?_
   rintro v24 w24 ⟨hM24, hk24⟩
   have hk24' := hk24.size
   have q25 := hM24.slF KB_flat 0 (fun _ _ => Nat.zero_le _)
   obtain ⟨A25, c25, rfl, hc25, hs25⟩ := q25
   refine X.dE (i := 7) Zl rfl (X.dwN rfl) (X.appE (K := KB) (S := fun k => we.heap.size ≤ k) KB_flat Zu81 E5 rfl rfl (Mine.mono (T := fun k => we.heap.size ≤ k) (hM23.keep hk24) (fun k h1 h2 => by (try simp only [] at *); omega)) hs25 zq15 zq34) (by rintro v26 w26 ⟨hM26, hx26⟩ _; exact hx26.mono (fun k _ h => by (try simp only [] at *); omega)) ?_
   rintro v26 w26 ⟨hM26, hx26⟩
   have hx26' := hx26.size
   refine X.dE (i := 9) Zl rfl (X.dwN rfl) (X.appE (K := KB) (S := fun k => we.heap.size ≤ k) KB_flat Zu81 E5 rfl rfl hM26 ((hsr2.keep (hk23.trans hk24)).ext hx26 zq1) zq15 zq34) (by rintro v27 w27 ⟨hM27, hx27⟩ _; exact hx27.mono (fun k _ h => by (try simp only [] at *); omega)) ?_
   rintro v27 w27 ⟨hM27, hx27⟩
   have hx27' := hx27.size
   have q29 := hM27.slF KB_flat 0 (fun _ _ => Nat.zero_le _)
   obtain ⟨A29, c29, rfl, hc29, hs29⟩ := q29
   refine X.dE (i := 10) Zl rfl (X.dwN rfl) (X.callE (Seal_c _ hs29 Zz (by first | assumption | exact Nat.le_refl _ | exact (by decide : (4 : Nat) ≤ 4)) (by first | omega | (simp only [List.length_append]; omega)) ((((hTz.ext hxe zq1).keep ((hk22.trans hk23).trans hk24)).ext hx26 zq1).ext hx27 zq1)) Zc67 rfl rfl) (by rintro v28 w28 ⟨hM28, hk28⟩ _; exact hk28.mono (fun _ _ h => h.elim)) ?_
   rintro v28 w28 ⟨hM28, hk28⟩
   have hk28' := hk28.size
   refine X.dStep (i := 11) Zl rfl (X.dwN rfl) (X.assign rfl) (fun h => absurd h (by decide))<|Zdend Zl<|Zs<|Zr<|Zom rfl rfl ?_
   have q30 := hM28.slF KB_flat 0 (fun _ _ => Nat.zero_le _)
   obtain ⟨A30, c30, rfl, hc30, hs30⟩ := q30
   refine Zo (X.lenSl Zu81 rfl) rfl<|Zoai rfl rfl<|Ze<|Zs<|Zr<|Zomi rfl rfl<|Zo (X.cvI Zu3 Zu5 rfl (tail_0 _)) rfl<|Zomi rfl rfl<|Zo (X.shr (c := (((idxB (pgs l) l.length).length / 2 ^ 8 : Nat) : Int)) rfl rfl (by decide) (shrI (idxB (pgs l) l.length).length 8 (by decide))) rfl<|Zo (X.cvI Zu3 Zu5 rfl (tail_at _ 8)) rfl<|Zomi rfl rfl<|Zo (X.shr (c := (((idxB (pgs l) l.length).length / 2 ^ 16 : Nat) : Int)) rfl rfl (by decide) (shrI (idxB (pgs l) l.length).length 16 (by decide))) rfl<|Zo (X.cvI Zu3 Zu5 rfl (tail_at _ 16)) rfl<|Zomi rfl rfl<|Zo (X.shr (c := (((idxB (pgs l) l.length).length / 2 ^ 24 : Nat) : Int)) rfl rfl (by decide) (shrI (idxB (pgs l) l.length).length 24 (by decide))) rfl<|Zo (X.cvI Zu3 Zu5 rfl (tail_at _ 24)) rfl<|Zc (X.litKF KB_flat (K := KB) (xs := [Operand.tmp 61, Operand.tmp 64, Operand.tmp 67, Operand.tmp 70]) (vs := [.int .u8 ((UInt8.ofNat (idxB (pgs l) l.length).length).toNat : Int), .int .u8 ((UInt8.ofNat ((idxB (pgs l) l.length).length / 2 ^ 8)).toNat : Int), .int .u8 ((UInt8.ofNat ((idxB (pgs l) l.length).length / 2 ^ 16)).toNat : Int), .int .u8 ((UInt8.ofNat ((idxB (pgs l) l.length).length / 2 ^ 24)).toNat : Int)]) (ys := [UInt8.ofNat (idxB (pgs l) l.length).length, UInt8.ofNat ((idxB (pgs l) l.length).length / 2 ^ 8), UInt8.ofNat ((idxB (pgs l) l.length).length / 2 ^ 16), UInt8.ofNat ((idxB (pgs l) l.length).length / 2 ^ 24)]) Zu81 Zs5 Tryz.zeroValue5 rfl rfl rfl rfl rfl (repsB [UInt8.ofNat (idxB (pgs l) l.length).length, UInt8.ofNat ((idxB (pgs l) l.length).length / 2 ^ 8), UInt8.ofNat ((idxB (pgs l) l.length).length / 2 ^ 16), UInt8.ofNat ((idxB (pgs l) l.length).length / 2 ^ 24)])) rfl ?_
   rintro _ w31 ⟨rfl, hs31, hB31, hk31, hz31⟩
   refine Zc (X.callE (Seal_c _ hs31 Zz (by first | assumption | exact Nat.le_refl _ | exact (by decide : (4 : Nat) ≤ 4)) (by first | omega | (simp only [List.length_append]; omega)) (((((hTz.ext hxe zq1).keep ((hk22.trans hk23).trans hk24)).ext hx26 zq1).ext hx27 zq1).keep (hk28.trans hk31))) Zc67 rfl rfl) rfl ?_
   rintro v32 w32 ⟨hM32, hk32⟩
   have hk32' := hk32.size
   refine Zoa rfl rfl<|Ze<|Zs<|Zr<|Zo (X.load1B Zi81 (((((h2.ext hxe zq1).keep ((hk22.trans hk23).trans hk24)).ext hx26 zq1).ext hx27 zq1).keep ((hk28.trans hk31).trans hk32)) rfl rfl) rfl ?_
   refine Zom rfl rfl<|Zc (R2.appA (((((hR.ext hxe zq1).keep ((hk22.trans hk23).trans hk24)).ext hx26 zq1).ext hx27 zq1).keep ((hk28.trans hk31).trans hk32)) (hs30.keep (hk31.trans hk32)) Zu81 E5 rfl rfl (by first | omega | (simp only [List.length_append, seal_len, List.length_cons, List.length_nil]; omega))) rfl ?_
   rintro _ w33 ⟨Aq33, cq33, S33, rfl, hR33, hx33⟩
   have hx33' := hx33.size
   refine Zom rfl rfl ?_
   have q35 := (hM32.ext hx33 zq1 zq1).slF KB_flat 0 (fun _ _ => Nat.zero_le _)
   obtain ⟨A35, c35, rfl, hc35, hs35⟩ := q35
   refine Zc (R2.appA hR33 hs35 Zu81 E5 rfl rfl (by first | omega | (simp only [List.length_append, seal_len, List.length_cons, List.length_nil]; omega))) rfl ?_
   rintro _ w34 ⟨Aq34, cq34, S34, rfl, hR34, hx34⟩
   have hx34' := hx34.size
   refine Zoa rfl rfl<|Zoa rfl rfl<|Ze<|X.ret_unw ?_
   refine X.collected' (by simp) ((hx34.keep _ Zz zq19).trans ((hx33.keep _ Zz zq19).trans ((hk32.keep _ Zz id).trans ((hk31.keep _ Zz id).trans ((hk28.keep _ Zz id).trans ((hx27.keep _ Zz zq19).trans ((hx26.keep _ Zz zq19).trans ((hk24.keep _ Zz id).trans ((hk23.keep _ Zz id).trans ((hk22.keep _ Zz id).trans ((hxe.keep _ Zz zq19).trans h6))))))))))) (fun wf hxf hzf => ?_)
   refine X.unwT2 Zf31 Tryz.results31 rfl rfl ?_
   rw [if_pos hr, if_pos hr]
   have hRf := (hR34.ext hxf zq1)
   exact ⟨_, rfl, (hRf.a.mono fun k _ hk => by have := hRf.s1 k hk; omega), ((((((((((((hkz.step hxe zq23).trans hk22).trans hk23).trans hk24).step hx26 zq23).step hx27 zq23).trans hk28).trans hk31).trans hk32).step hx33 zq23).step hx34 zq23).step hxf zq23)⟩
theorem Bytes_c {lo hi : Nat} {A : Option Addr} {n c : Nat} {l : List CD} (w : World) (hs : Sl KC lo hi w A n l) (hhi : hi ≤ w.heap.size) (hnc : n ≤ c) (hn : n ≤ 100) (hok : Oks l) (hTb : TabOk w) : Ret Tryz.prog 31 #[.slice A n c] w fun r w' => ∃ v, r = .tuple #[v, .int .i64 (if isR l then 0 else 70)] ∧ FreshB w w' v (if isR l then runB l else []) := Bytes_F w hs hhi hnc (Fit.of hok (by rw [hs.len]; exact hn)) hTb
abbrev FLT : Value := .iface 171 (.agg #[])
theorem pNum_suf : ∀ {xs : List UInt8} {i acc : Nat} {b : Nat × List UInt8}, pNum i acc xs = some b → ∃ pre, pre ≠ [] ∧ xs = pre ++ b.2
  | [], _, _, _, h => by cases h
  | c :: xs, i, acc, b, h => by
    unfold pNum at h
    split at h
    · cases h
    · split at h
      · cases h; exact ⟨[c], by simp, rfl⟩
      · obtain ⟨pre, _, e⟩ := pNum_suf h
        exact ⟨c :: pre, by simp, by rw [e]; rfl⟩
theorem pText_suf {most : Int} {xs : List UInt8} {b : List UInt8 × List UInt8} (h : pText most xs = some b) : ∃ pre, pre ≠ [] ∧ xs = pre ++ b.2 := by
  unfold pText at h
  cases hp : pNum 0 0 xs with
  | none => rw [hp] at h; cases h
  | some z =>
    obtain ⟨a, ys⟩ := z
    obtain ⟨pre, h1, e⟩ := pNum_suf hp
    rw [hp] at h
    simp only at h
    split at h
    · cases h
    · cases h
      refine ⟨pre ++ ys.take a, by simp [h1], ?_⟩
      rw [List.append_assoc, List.take_append_drop]; exact e
theorem suf_drop {xs pre ys : List UInt8} (h : xs = pre ++ ys) : xs.drop (xs.length - ys.length) = ys := by
  subst h; rw [List.length_append, Nat.add_sub_cancel, List.drop_left]
theorem rcaught_0 (be : Nat) (w : World) : DCall Tryz.prog 78 #[.pointer (some ⟨be, 0, none⟩)] w .returning fun m w' => m = .returning ∧ w' = w := by
 refine X.DCall.rec2 (mode' := .returning) (v := .nilIface) Zf78 rfl Tryz.ntmps78 rfl rfl rfl<|Zoa rfl rfl<|Ze<|Zs<|Zs<|Zr<|Zom rfl rfl<|Zo (X.eqIf0 Zu20 rfl rfl) rfl<|Ze<|Zt rfl<|X.ret0 Zf78 Tryz.results78 ?_
 exact ⟨rfl, rfl⟩
theorem rcaught_1 (be : Nat) (x : Value) (w : World) (hB : Blk w be [x] 25) : DCall Tryz.prog 78 #[.pointer (some ⟨be, 0, none⟩)] w (.panicking [{ v := FLT, recovered := false }]) fun m w' => m = .panicking [{ v := FLT, recovered := true }] ∧ Blk w' be [.int .i64 71] 25 ∧ Ext (fun k => k = be) w w' := by
 have hlt := hB.lt
 refine X.DCall.rec2 (mode' := .panicking [{ v := FLT, recovered := true }]) (v := FLT) Zf78 rfl Tryz.ntmps78 rfl rfl rfl<|Zoa rfl rfl<|Ze<|Zs<|Zs<|Zr<|Zom rfl rfl<|Zo (X.eqIf1 Zu20 rfl rfl) rfl<|Ze<|Zf rfl<|Zk<|Zs<|Zs<|Zr<|Zom rfl rfl<|Zo (X.tAssert Zu171 rfl rfl) rfl<|Zom rfl rfl<|Zo (X.extr rfl rfl) rfl<|Zo (X.extr (v := .bool true) rfl rfl) rfl<|Zc (X.allocE Tryz.zeroValue171 rfl) rfl ?_
 rintro _ w1 ⟨rfl, hB1, hk1, hz1⟩
 refine Zc (X.storeNE Tryz.sizeOf171 hB1 rfl rfl rfl rfl (fun _ h => by cases h)) rfl ?_
 rintro _ w2 ⟨hB2, hx2, hz2⟩
 refine Zoat rfl rfl<|Ze<|Zs<|Zr<|Zomt rfl rfl<|Zo (X.not_ rfl) rfl<|Ze<|Zf rfl<|Zk<|Zr<|Zom rfl rfl<|Zo (X.nilCk rfl) rfl<|Zc (X.storeE Zs25 (hB.keep (hk1.step hx2 zq34)) rfl rfl rfl rfl) rfl ?_
 rintro _ w3 ⟨hB3, hx3, hz3⟩
 refine Ze<|X.end0 Zf78 Tryz.results78 ?_
 exact ⟨rfl, hB3, (Ext.andThen (Ext.andThen (Ext.andThen (Ext.refl (fun k => k = be) _) hk1 zq30) hx2 zq30) hx3 zq30)⟩
theorem PRet.of {β : Type} {P : Program} {f : FuncId} {args : Array Value} {w : World} {x : Value} {ok : Option β} {Q : β → Value → World → Prop} {B : World → Prop} (h : X.Call P f args w fun o w' => match ok with
    | some b => ∃ v, o = .ret v ∧ Q b v w'
    | none => o = .pan [{ v := x, recovered := false }] ∧ B w') : PRet P f args w x ok Q B := h
def okE (e : Int) : Option Unit := if e = 0 then some () else none
theorem must_c (e : Int) (w : World) : PRet Tryz.prog 80 #[.int .i64 e] w FLT (okE e) (fun _ v w' => v = .tuple #[] ∧ Keep w w') (fun w' => Keep w w') := by
 unfold okE
 apply PRet.of
 refine X.enter Zf80 rfl Tryz.ntmps80 rfl<|Zs<|Zr<|Zomi rfl rfl<|X.opP X.wN rfl rfl (X.neI rfl rfl) (fun h3 => ?_) (fun h3 => ?_)
 ·rw [if_neg h3]
  refine Ze<|Zt rfl<|Zr<|Zo (X.buildB (vs := []) (cs := #[]) rfl Zl) rfl<|Zo (X.mkIface Zu171 rfl rfl) rfl<|X.opPanic X.wN rfl<|X.unw_pan Zf80 ?_
  exact ⟨rfl, (Keep.refl _)⟩
 ·have h3 : e = 0 := Classical.byContradiction h3
  rw [if_pos h3]
  refine Ze<|Zf rfl<|Zk<|X.end0 Zf80 Tryz.results80 ?_
  exact ⟨_, rfl, rfl, (Keep.refl _)⟩
abbrev LEAF := Nat × Nat × List VAL
def parts (all : Nat) : Nat → Nat → Option (List VAL) → List UInt8 → Option (List LEAF)
  | 0, a, _, x => if x = [] ∧ a = all then some [] else none
  | k + 1, a, last, x => match pNum 0 0 x with
    | none => none
    | some (sz, x1) => match pText 1048576 x1 with
      | none => none
      | some (kb, x2) => match pFrom kb with
        | none => none
        | some t => if all - a < sz ∨ (match last with | none => false | some u => decide (0 ≤ cmpT u t)) = true then none
          else (parts all k (a + sz) (some t) x2).map fun l => (a, sz, t) :: l
def le4 (t : List UInt8) : Nat := (t.getD 0 0).toNat + 256 * (t.getD 1 0).toNat + 65536 * (t.getD 2 0).toNat + 16777216 * (t.getD 3 0).toNat
def idx3 (all : Nat) (x : List UInt8) : Option (List LEAF × Nat) := match pNum 0 0 x with
  | none => none
  | some (cn, x1) => match pNum 0 0 x1 with
    | none => none
    | some (sm, x2) => if 9223372036854775807 < sm then none else (parts all cn 0 none x2).map fun l => (l, sm)
def idx2 (b : List UInt8) (t : List UInt8) : Option (List LEAF × Nat) :=
  if b.length - 8 < le4 t then none else match openC ((b.drop (b.length - 8 - le4 t)).take (le4 t)) with
    | (e, x) => if e ≠ 0 then none else idx3 (b.length - 8 - le4 t) x
def idxP (b : List UInt8) : Option (List LEAF × Nat) :=
  if b.length < 8 then none else match openC (b.drop (b.length - 8)) with
    | (e, t) => if e ≠ 0 then none else idx2 b t
theorem okE_some {α : Type} {o : Option (α × List UInt8)} {u : Unit} (h : okE (code o) = some u) : ∃ z, o = some z := by
  cases o with
  | none => exact absurd h (by show okE 30 ≠ _; simp [okE])
  | some z => exact ⟨z, rfl⟩
theorem okE_none {α : Type} {o : Option (α × List UInt8)} (h : okE (code o) = none) : o = none := by
  cases o with
  | none => rfl
  | some z => exact absurd h (by show okE 0 ≠ _; simp [okE])
theorem okE_s {e : Int} {u : Unit} (h : okE e = some u) : e = 0 := by
  unfold okE at h; split at h
  · assumption
  · cases h
theorem okE_n {e : Int} (h : okE e = none) : e ≠ 0 := by
  unfold okE at h; split at h
  · cases h
  · assumption
theorem rnum_c {lo hi : Nat} {A : Option Addr} {n c : Nat} {xs : List UInt8} (w : World) (hs : Sl KB lo hi w A n xs) (hhi : hi ≤ w.heap.size) (hnc : n ≤ c) (hn : n ≤ 1000000) : PRet Tryz.prog 81 #[.slice A n c] w FLT (pNum 0 0 xs) (fun b v w' => ∃ A' c', v = .tuple #[.int .u64 ((b.1 : Nat) : Int), .slice A' b.2.length c'] ∧ b.2.length ≤ c' ∧ c' ≤ c ∧ b.1 < 18446744073709551616 ∧ Sl KB lo hi w' A' b.2.length b.2 ∧ Keep w w') (fun w' => Keep w w') := by
 have hl := hs.len
 apply PRet.of
 refine X.enter Zf81 rfl Tryz.ntmps81 rfl<|Zs<|Zr<|Zoa rfl rfl<|Zoa rfl rfl<|Ze<|Zs<|Zr<|Zoms rfl rfl<|Zc (X.callE (TakeNum_c _ (hs.wide (Nat.zero_le _) Zz) hnc hn) Tryz.call123 rfl rfl) rfl ?_
 rintro _ w1 ⟨rfl, hk1⟩
 have hk1' := hk1.size
 refine Zom rfl rfl<|Zo (X.extr rfl rfl) rfl<|Zo (X.extr rfl rfl) rfl<|Zo (X.extr rfl rfl) rfl<|Zoau rfl rfl<|Zoai rfl rfl<|Zoai rfl rfl<|Ze<|Zs<|Zr<|Zomi rfl rfl<|X.opPR (must_c _ _) X.wN rfl Zc80 rfl (fun b2 hb2 => ?_) (fun hb2 => ?_)
 ·rintro _ w2 ⟨rfl, hk2⟩
  have hk2' := hk2.size
  obtain ⟨z, hz⟩ := okE_some hb2
  obtain ⟨pre, hpre, hxs⟩ := pNum_suf hz
  have hzl : z.2.length ≤ n := by rw [← hl, hxs, List.length_append]; omega
  have hcn : cnt (pNum 0 0 xs) n = ((n - z.2.length : Nat) : Int) := by rw [hz]; show (n : Int) - (z.2.length : Int) = _; omega
  refine Ze<|Zs<|X.regionD (fun _ => False) 5 Zl Zl (fun w3 hk3 hz3 => ?_)
  refine ZDc 0 rfl Zl (Zdmu rfl)<|ZDc 1 rfl Zl (Zdms rfl)<|ZDc 2 rfl Zl (Zdmi rfl)<|ZDc 3 rfl Zl (X.cutL (m := cnt (pNum 0 0 xs) n) Zu81 Zs5 rfl rfl ⟨by omega, by omega⟩)<|ZDc 4 rfl Zl (Zdau rfl)<|X.dStep (i := 5) Zl rfl (X.dwN rfl) (X.assign rfl) (fun h => absurd h (by decide))<|Zdend Zl<|X.ret2 (v1 := (.int .u64 _)) Zf81 Tryz.results81 rfl rfl ?_
  have e1 : n - (cnt (pNum 0 0 xs) n).toNat = z.2.length := by rw [hcn, Int.toNat_natCast]; omega
  have hd := hs.drop (cnt (pNum 0 0 xs) n).toNat c Zz hnc
  rw [e1, hcn, Int.toNat_natCast, ← hl, suf_drop hxs] at hd
  rw [hl] at hd
  rw [hz] at e1 ⊢
  refine ⟨_, rfl, _, c - (cnt (some z) n).toNat, by rw [e1]; rfl, ?_, by omega, pNum_lt xs 0 0 z Zz (by decide) hz, ?_, ((hk1.trans hk2).trans hk3)⟩
  ·rw [hz] at hcn; rw [hcn, Int.toNat_natCast]; omega
  ·rw [hz] at hcn; rw [hcn, Int.toNat_natCast]; exact hd.keep ((hk1.trans hk2).trans hk3)
 ·rintro w2 hx2
  have hx2' := hx2.size
  refine X.unw_pan Zf81 ?_
  have hz := okE_none hb2
  rw [hz]
  exact ⟨rfl, ((hk1.step hx2 (by intro q g1; first | exact (g1 : False).elim | (have g1 : q = _ := g1; omega) | omega))).mono fun _ _ h => h.elim⟩
abbrev LH := Nat × Nat × HDR
abbrev evLf (x : LH) : Value := .agg #[.int .i64 (x.1 : Int), .int .i64 (x.2.1 : Int), .slice x.2.2.1 x.2.2.2.1 x.2.2.2.2]
def KLf : Kd LH := Kd.plain 3 (fun x => [.int .i64 (x.1 : Int), .int .i64 (x.2.1 : Int), .slice x.2.2.1 x.2.2.2.1 x.2.2.2.2]) (fun _ => True) (fun _ => rfl) (fun _ u hu => by simp at hu; rcases hu with rfl | rfl | rfl <;> rfl)
theorem KLf_flat : Flat KLf := fun h => h
theorem repsLf {w : World} (x : LH) : RepsV KLf w [x] [evLf x] := ⟨⟨_, rfl, rfl, trivial⟩, trivial⟩
theorem ELf : ElemInfo Tryz.prog 109 3 40 := ElemInfo.of (z := .agg #[.int .i64 0, .int .i64 0, .slice none 0 0]) Zl rfl rfl rfl
def NdLf : Nd LH LEAF where
  K := KLf
  flat := KLf_flat
  R := fun TB w x q => x.1 = q.1 ∧ x.2.1 = q.2.1 ∧ x.2.2.2.1 ≤ x.2.2.2.2 ∧ ∃ lo hi, (∀ k, lo ≤ k → k < hi → TB k) ∧ Sl KV lo hi w x.2.2.1 x.2.2.2.1 q.2.2
  ext := fun ⟨h1, h2, h3, lo, hi, h4, h5⟩ y hU => ⟨h1, h2, h3, lo, hi, h4, h5.ext y fun k a b => hU k (h4 k a b)⟩
  mono := fun ⟨h1, h2, h3, lo, hi, h4, h5⟩ hT => ⟨h1, h2, h3, lo, hi, fun k a b => hT k (h4 k a b), h5⟩
theorem or64 (a b k : Nat) (ha : a < 2 ^ k) (hk : k ≤ 24) (hb : b < 256) : IntKind.i64.wrap (BitVec.ofInt IntKind.i64.bits (a : Int) ||| BitVec.ofInt IntKind.i64.bits ((b * 2 ^ k : Nat) : Int)).toNat = ((a + 2 ^ k * b : Nat) : Int) := by
  have h1 : (2 : Nat) ^ k ≤ 2 ^ 24 := Nat.pow_le_pow_right (by decide) hk
  have h2 : b * 2 ^ k ≤ 255 * 2 ^ 24 := Nat.mul_le_mul Zz h1
  have e : (BitVec.ofInt IntKind.i64.bits (a : Int) ||| BitVec.ofInt IntKind.i64.bits ((b * 2 ^ k : Nat) : Int)).toNat = a + 2 ^ k * b := by
    show (BitVec.ofInt 64 (a : Int) ||| BitVec.ofInt 64 ((b * 2 ^ k : Nat) : Int)).toNat = _
    rw [BitVec.toNat_or, BitVec.ofInt_natCast, BitVec.ofInt_natCast, BitVec.toNat_ofNat, BitVec.toNat_ofNat, Nat.mod_eq_of_lt Zz, Nat.mod_eq_of_lt Zz, Nat.or_comm, ← Nat.shiftLeft_eq, ← Nat.shiftLeft_add_eq_or_of_lt ha, Nat.shiftLeft_eq, Nat.mul_comm]
    omega
  rw [e, X.w_i64]
  have := Nat.mul_comm b (2 ^ k)
  omega
theorem shl64 (b k : Nat) (hk : k ≤ 24) (hb : b < 256) : IntKind.i64.wrap ((b : Int) * 2 ^ (min ((k : Int)).toNat IntKind.i64.bits)) = ((b * 2 ^ k : Nat) : Int) := by
  have h : min ((k : Int)).toNat IntKind.i64.bits = k := by show min ((k : Int)).toNat 64 = k; omega
  have h1 : (2 : Nat) ^ k ≤ 2 ^ 24 := Nat.pow_le_pow_right (by decide) hk
  have h2 : b * 2 ^ k ≤ 255 * 2 ^ 24 := Nat.mul_le_mul Zz h1
  have e : (2 : Int) ^ k = ((2 ^ k : Nat) : Int) := by rw [Int.natCast_pow]; rfl
  rw [h, e, ← Int.natCast_mul, X.w_i64 Zz]
theorem list4 {l : List UInt8} (h : l.length = 4) : ∃ a b c d, l = [a, b, c, d] := by
  match l, h with
  | [a, b, c, d], _ => exact ⟨a, b, c, d, rfl⟩
theorem open_len {l : List UInt8} (h : (openC l).1 = 0) : 4 ≤ l.length ∧ (openC l).2 = l.take (l.length - 4) := by
  rw [openC] at h ⊢
  split at h
  · exact absurd h (by decide)
  · rename_i h4
    rw [if_neg h4]
    split at h
    · rename_i h5; rw [if_pos h5]; exact ⟨by omega, rfl⟩
    · exact absurd h (by decide)
section
variable {all k a : Nat} {last : Option (List VAL)} {x : List UInt8}
theorem parts_1 (h : pNum 0 0 x = none) : parts all (k + 1) a last x = none := by rw [parts, h]
theorem parts_2 {z : Nat × List UInt8} (h : pNum 0 0 x = some z) (h2 : pText 1048576 z.2 = none) : parts all (k + 1) a last x = none := by obtain ⟨s, x1⟩ := z; rw [parts, h]; simp only; rw [h2]
theorem parts_3 {z : Nat × List UInt8} {y : List UInt8 × List UInt8} (h : pNum 0 0 x = some z) (h2 : pText 1048576 z.2 = some y) (h3 : pFrom y.1 = none) : parts all (k + 1) a last x = none := by obtain ⟨s, x1⟩ := z; obtain ⟨kb, x2⟩ := y; rw [parts, h]; simp only; rw [h2]; simp only; rw [h3]
def badL (last : Option (List VAL)) (t : List VAL) : Bool := match last with | none => false | some u => decide (0 ≤ cmpT u t)
theorem parts_4 {z : Nat × List UInt8} {y : List UInt8 × List UInt8} {t : List VAL} (h : pNum 0 0 x = some z) (h2 : pText 1048576 z.2 = some y) (h3 : pFrom y.1 = some t) (h4 : all - a < z.1 ∨ badL last t = true) : parts all (k + 1) a last x = none := by
  obtain ⟨s, x1⟩ := z; obtain ⟨kb, x2⟩ := y; rw [parts, h]; simp only; rw [h2]; simp only; rw [h3]; simp only; exact if_pos h4
theorem parts_5 {z : Nat × List UInt8} {y : List UInt8 × List UInt8} {t : List VAL} (h : pNum 0 0 x = some z) (h2 : pText 1048576 z.2 = some y) (h3 : pFrom y.1 = some t) (h4 : ¬ (all - a < z.1 ∨ badL last t = true)) : parts all (k + 1) a last x = (parts all k (a + z.1) (some t) y.2).map fun l => (a, z.1, t) :: l := by
  obtain ⟨s, x1⟩ := z; obtain ⟨kb, x2⟩ := y; rw [parts, h]; simp only; rw [h2]; simp only; rw [h3]; simp only; exact if_neg h4
end
def lastT (l : List LEAF) : Option (List VAL) := l.getLast?.map (·.2.2)
theorem lastT_snoc (l : List LEAF) (q : LEAF) : lastT (l ++ [q]) = some q.2.2 := by rw [lastT, List.getLast?_concat]; rfl
theorem zeroI0_c (be bx bn : Nat) (w : World) (hE : Blk w be [.int .i64 0] 25) : Ret Tryz.prog 77 #[.pointer (some ⟨be, 0, none⟩), .pointer (some ⟨bx, 0, none⟩), .pointer (some ⟨bn, 0, none⟩)] w fun _ w' => w' = w := by
 refine X.enter Zf77 rfl Tryz.ntmps77 rfl<|Zs<|Zr<|Zo (X.load1B Zi25 hE rfl rfl) rfl<|X.opP X.wN rfl rfl (X.neI rfl rfl) (fun h4 => ?_) (fun h4 => ?_)
 ·exact absurd rfl h4
 ·refine Ze<|Zf rfl<|Zk<|X.end0 Zf77 Tryz.results77 ?_
  rfl
theorem zeroI1_c (be bx bn : Nat) (x k : Value) (w : World) (hE : Blk w be [.int .i64 71] 25) (hX : Blk w bx [x] 96) (hN : Blk w bn [k] 3) (h1 : bx ≠ be) (h2 : bn ≠ be) (h3 : bn ≠ bx) : Ret Tryz.prog 77 #[.pointer (some ⟨be, 0, none⟩), .pointer (some ⟨bx, 0, none⟩), .pointer (some ⟨bn, 0, none⟩)] w
    fun _ w' => Blk w' be [.int .i64 71] 25 ∧ Blk w' bx [.slice none 0 0] 96 ∧ Blk w' bn [.int .i64 0] 3 ∧ Ext (fun k => k = bx ∨ k = bn) w w' := by
 refine X.enter Zf77 rfl Tryz.ntmps77 rfl<|Zs<|Zr<|Zo (X.load1B Zi25 hE rfl rfl) rfl<|X.opP X.wN rfl rfl (X.neI rfl rfl) (fun h4 => ?_) (fun h4 => ?_)
 ·refine Ze<|Zt rfl<|Zr<|Zc (X.storeE Zs96 hX rfl rfl rfl rfl) rfl ?_
  rintro _ w1 ⟨hB1, hx1, hz1⟩
  refine Zc (X.storeE Zs3 (hN.ext hx1 zq36) rfl rfl rfl rfl) rfl ?_
  rintro _ w2 ⟨hB2, hx2, hz2⟩
  refine Ze<|X.end0 Zf77 Tryz.results77 ?_
  exact ⟨((hE.ext hx1 zq36).ext hx2 zq36), (hB1.ext hx2 zq36), hB2, (Ext.andThen (Ext.andThen (Ext.refl (fun k => k = bx ∨ k = bn) _) hx1 zq30) hx2 zq30)⟩
 ·exact absurd (by decide) h4
theorem open_sl {e : Nat} {w w' : World} {v : Value} {l : List UInt8} (h : Fresh KB e w w' v l) : ∃ A c, v = .slice A l.length c ∧ l.length ≤ c ∧ Sl KB w.heap.size w'.heap.size w' A l.length l ∧ Keep w w' := by
  obtain ⟨hM, hk⟩ := h
  obtain ⟨A, c, e, hc, hs⟩ := hM.slF KB_flat w.heap.size (fun _ h => h)
  exact ⟨A, c, e, hc, hs, hk⟩
theorem sl_cast {α : Type} {K : Kd α} {lo hi : Nat} {w : World} {A : Option Addr} {n : Nat} {l l' : List α} (h : Sl K lo hi w A n l) (e : l = l') : Sl K lo hi w A n l' := e ▸ h
theorem mineKV_sl {w w' : World} {v : Value} {l : List VAL} (hM : Mine KV 88 (fun k => w.heap.size ≤ k) 0 0 w' v l) : ∃ A c, v = .slice A l.length c ∧ l.length ≤ c ∧ Sl KV w.heap.size w'.heap.size w' A l.length l := hM.slF KV_flat w.heap.size (fun _ h => h)
theorem pText_fst {most : Int} {xs : List UInt8} {b : List UInt8 × List UInt8} (h : pText most xs = some b) : b.1.length + b.2.length ≤ xs.length := by
  unfold pText at h
  cases hp : pNum 0 0 xs with
  | none => rw [hp] at h; cases h
  | some z =>
    obtain ⟨a, ys⟩ := z
    obtain ⟨pre, h1, e⟩ := pNum_suf hp
    rw [hp] at h
    simp only at h
    split at h
    · cases h
    · cases h
      rw [e, List.length_append]; simp only [List.length_take, List.length_drop]; omega
theorem last_at {l : List LEAF} {q : LEAF} (h : l[l.length - 1]? = some q) : lastT l = some q.2.2 := by rw [lastT, List.getLast?_eq_getElem?, h]; rfl
theorem last_nil {l : List LEAF} (h : ¬ 0 < l.length) : lastT l = none := by
  have : l = [] := List.eq_nil_of_length_eq_zero Zz
  rw [this]; rfl
theorem idx_a {xs : List UInt8} (h : xs.length < 8) : idxP xs = none := by rw [idxP, if_pos h]
theorem idx_b {xs : List UInt8} (h : ¬ xs.length < 8) (h2 : (openC (xs.drop (xs.length - 8))).1 ≠ 0) : idxP xs = none := by rw [idxP, if_neg h]; simp only []; exact if_pos h2
theorem idx_c {xs : List UInt8} (h : ¬ xs.length < 8) (h2 : (openC (xs.drop (xs.length - 8))).1 = 0) : idxP xs = idx2 xs (openC (xs.drop (xs.length - 8))).2 := by rw [idxP, if_neg h]; simp only []; exact if_neg (by simp [h2])
theorem idx_d {xs t : List UInt8} (h : xs.length - 8 < le4 t) : idx2 xs t = none := by rw [idx2, if_pos h]
theorem idx_e {xs t : List UInt8} (h : ¬ xs.length - 8 < le4 t) (h2 : (openC ((xs.take (xs.length - 8 - le4 t + le4 t)).drop (xs.length - 8 - le4 t))).1 ≠ 0) : idx2 xs t = none := by
  rw [List.drop_take, Nat.add_sub_cancel_left] at h2
  rw [idx2, if_neg h]; simp only []; exact if_pos h2
theorem idx_f {xs t : List UInt8} (h : ¬ xs.length - 8 < le4 t) (h2 : (openC ((xs.take (xs.length - 8 - le4 t + le4 t)).drop (xs.length - 8 - le4 t))).1 = 0) : idx2 xs t = idx3 (xs.length - 8 - le4 t) (openC ((xs.take (xs.length - 8 - le4 t + le4 t)).drop (xs.length - 8 - le4 t))).2 := by
  rw [List.drop_take, Nat.add_sub_cancel_left] at h2 ⊢
  rw [idx2, if_neg h]; simp only []; exact if_neg (by simp [h2])
theorem idx_g {all : Nat} {x : List UInt8} (h : pNum 0 0 x = none) : idx3 all x = none := by rw [idx3, h]
theorem idx_h {all : Nat} {x : List UInt8} {z : Nat × List UInt8} (h : pNum 0 0 x = some z) (h2 : pNum 0 0 z.2 = none) : idx3 all x = none := by obtain ⟨s, x1⟩ := z; rw [idx3, h]; simp only; rw [h2]
theorem idx_i {all : Nat} {x : List UInt8} {z y : Nat × List UInt8} (h : pNum 0 0 x = some z) (h2 : pNum 0 0 z.2 = some y) (h3 : 9223372036854775807 < y.1) : idx3 all x = none := by obtain ⟨s, x1⟩ := z; obtain ⟨s2, x2⟩ := y; rw [idx3, h]; simp only; rw [h2]; simp only; exact if_pos h3
theorem idx_j {all : Nat} {x : List UInt8} {z y : Nat × List UInt8} (h : pNum 0 0 x = some z) (h2 : pNum 0 0 z.2 = some y) (h3 : ¬ 9223372036854775807 < y.1) : idx3 all x = (parts all z.1 0 none y.2).map fun l => (l, y.1) := by obtain ⟨s, x1⟩ := z; obtain ⟨s2, x2⟩ := y; rw [idx3, h]; simp only; rw [h2]; simp only; exact if_neg h3
theorem map_nil {o : Option (List LEAF)} {k : Nat} : (o.map fun l => (l, k)) = ((o.map (([] : List LEAF) ++ ·)).map fun l => (l, k)) := by cases o <;> rfl
theorem map_snoc {o : Option (List LEAF)} {l : List LEAF} {q : LEAF} : ((o.map fun l' => q :: l').map (l ++ ·)) = o.map ((l ++ [q]) ++ ·) := by cases o <;> simp
theorem index_c {lo hi : Nat} {A : Option Addr} {n c : Nat} {xs : List UInt8} (w : World) (hs : Sl KB lo hi w A n xs) (hhi : hi ≤ w.heap.size) (hnc : n ≤ c) (hn : n ≤ 1000000) (hTb : TabOk w) : Ret Tryz.prog 37 #[.slice A n c] w fun r w' => (match idxP xs with
    | some (l, k) => ∃ v L m S G, r = .tuple #[v, .int .i64 (k : Int), .int .i64 0] ∧ NRow NdLf 109 w.heap.size m S G w' v L l
    | none => r = .tuple #[.slice none 0 0, .int .i64 0, .int .i64 71]) ∧ Keep w w' := by
 have hsl := hs.len
 have htl := hTb.lt
 refine X.enter Zf37 rfl Tryz.ntmps37 rfl<|Zs<|Zr<|Zc (X.allocE Tryz.zeroValue96 rfl) rfl ?_
 rintro _ w1 ⟨rfl, hB1, hk1, hz1⟩
 refine Zc (X.allocE Zv3 rfl) rfl ?_
 rintro _ w2 ⟨rfl, hB2, hk2, hz2⟩
 refine Zc (X.allocE Tryz.zeroValue25 rfl) rfl ?_
 rintro _ w3 ⟨rfl, hB3, hk3, hz3⟩
 refine Ze<|Zs<|Zr<|Zo (X.mkFunc rfl) rfl<|X.opDefer X.wN rfl rfl<|Ze<|Zs<|Zr<|X.opDefer X.wN rfl rfl<|Ze<|Zs<|Zs<|Zr<|Zoms rfl rfl<|Zo (X.lenSl Zu81 rfl) rfl<|X.opP X.wN rfl rfl (X.lss rfl rfl) (fun h22 => ?_) (fun h22 => ?_)
 ·
  refine Ze<|Zt rfl<|Zr<|Zo (X.buildB (vs := []) (cs := #[]) rfl Zl) rfl<|Zo (X.mkIface Zu171 rfl rfl) rfl<|X.opPanic X.wN rfl ?_
  have hN : idxP xs = none := idx_a Zz
  refine X.unw_defer Zc78 (fun h => by cases h) (rcaught_1 _ _ _ hB3) ?_
  rintro m wz ⟨rfl, hBz, hxz⟩
  have hxz' := hxz.size
  show X.Unw _ _ _ FrameMode.returning _ _ _ _
  refine X.unw_defer Zc77 (fun h => by cases h) (X.DCall.of_ret (zeroI1_c _ _ _ _ _ _ hBz ((hB1.keep (hk2.trans hk3)).ext hxz zq35) ((hB2.keep hk3).ext hxz zq35) Zz Zz Zz)) ?_
  rintro m wq ⟨rfl, vq, hq1, hq2, hq3, hq4⟩
  show X.Unw _ _ _ FrameMode.returning _ _ _ _
  refine X.unwR3 Zf37 Zr37 (X.ResOk.cell rfl (X.lv1 Zi96 hq2 rfl)) (X.ResOk.cell rfl (X.lv1 Zi3 hq3 rfl)) (X.ResOk.cell rfl (X.lv1 Zi25 hq1 rfl)) ?_
  rw [hN]
  exact ⟨rfl, ((((hk1.trans hk2).trans hk3)).step hxz zq24).step hq4 zq24⟩
 ·refine Ze<|Zf rfl<|Zk<|Zs<|Zr<|Zoms rfl rfl<|Zo (X.lenSl Zu81 rfl) rfl<|Zo (X.sub (c := ((n - 8 : Nat) : Int)) rfl rfl (by rw [X.w_i64 Zz]; omega)) rfl ?_
  refine Zoai rfl rfl<|Ze<|Zs<|Zr<|Zoms rfl rfl<|Zomi rfl rfl<|Zo (X.cutL Zu81 Zs5 rfl rfl Zz) rfl<|Zc (X.callE (Open_c _ ((hs.drop (n - 8) c Zz Zz).keep ((hk1.trans hk2).trans hk3)) Zz Zz (hTb.keep ((hk1.trans hk2).trans hk3))) Zc79 rfl rfl) rfl ?_
  rintro _ w4 ⟨v4, rfl, hF4⟩
  obtain ⟨Ao1, co1, rfl, hco1, hso1, hk4⟩ := open_sl hF4
  have hk4' := hk4.size
  refine Zom rfl rfl<|Zo (X.extr rfl rfl) rfl<|Zo (X.extr rfl rfl) rfl<|Zoas rfl rfl<|Zoai rfl rfl<|Ze<|Zs<|Zr<|Zomi rfl rfl<|X.opPR (must_c _ _) X.wN rfl Zc80 rfl (fun b5 hb5 => ?_) (fun hb5 => ?_)
  ·rintro _ w5 ⟨rfl, hk5⟩
   have hk5' := hk5.size
   have ho1 := okE_s hb5
   obtain ⟨g1, g2⟩ := open_len ho1
   have hE1 : idxP xs = idx2 xs (openC (xs.drop (n - 8))).2 := by subst hsl; exact idx_c Zz ho1
   have hT4 : (openC (xs.drop (n - 8))).2.length = 4 := by rw [g2, List.length_take, List.length_drop]; omega
   obtain ⟨c0, c1, c2, c3, hT⟩ := list4 hT4
   have hT0 : (openC (xs.drop (n - 8))).2[0]? = some c0 := by rw [hT]; rfl
   have hT1 : (openC (xs.drop (n - 8))).2[1]? = some c1 := by rw [hT]; rfl
   have hT2 : (openC (xs.drop (n - 8))).2[2]? = some c2 := by rw [hT]; rfl
   have hT3 : (openC (xs.drop (n - 8))).2[3]? = some c3 := by rw [hT]; rfl
   have hTle : (le4 (openC (xs.drop (n - 8))).2) = c0.toNat + 256 * c1.toNat + 65536 * c2.toNat + 16777216 * c3.toNat := by rw [hT]; rfl
   have hc0 := c0.toNat_lt
   have hc1 := c1.toNat_lt
   have hc2 := c2.toNat_lt
   have hc3 := c3.toNat_lt
   refine Ze<|Zs<|X.regionD (fun _ => False) 22 Zl Zl (fun w6 hk6 hz6 => ?_)
   refine ZDc 0 rfl Zl (Zdms rfl)<|ZD 1 rfl Zl (fun w' hk' => X.idxS (hso1.keep ((hk5.trans hk6).trans hk')) Zu81 Zs5 rfl rfl ⟨by omega, by omega⟩)<|ZD 2 rfl Zl (fun w' hk' => X.loadS Zi5 (hso1.keep ((hk5.trans hk6).trans hk')) (j := 0) hT0 rfl (fun _ h => by rw [h.1]; rfl)) ?_
   refine ZDc 3 rfl Zl (X.cvI Zu5 Zu3 rfl (X.w_i64 Zz))<|ZDc 4 rfl Zl (Zdms rfl)<|ZD 5 rfl Zl (fun w' hk' => X.idxS (hso1.keep ((hk5.trans hk6).trans hk')) Zu81 Zs5 rfl rfl ⟨by omega, by omega⟩)<|ZD 6 rfl Zl (fun w' hk' => X.loadS Zi5 (hso1.keep ((hk5.trans hk6).trans hk')) (j := 1) hT1 rfl (fun _ h => by rw [h.1]; rfl)) ?_
   refine ZDc 7 rfl Zl (X.cvI Zu5 Zu3 rfl (X.w_i64 Zz))<|ZDc 8 rfl Zl (X.shl (c := ((c1.toNat * 2 ^ 8 : Nat) : Int)) rfl rfl (by decide) (shl64 c1.toNat 8 (by decide) Zz))<|ZDc 9 rfl Zl (X.or_ (c := (((c0.toNat + 2 ^ 8 * c1.toNat) : Nat) : Int)) rfl rfl (or64 c0.toNat c1.toNat 8 Zz (by decide) Zz))<|ZDc 10 rfl Zl (Zdms rfl)<|ZD 11 rfl Zl (fun w' hk' => X.idxS (hso1.keep ((hk5.trans hk6).trans hk')) Zu81 Zs5 rfl rfl ⟨by omega, by omega⟩)<|ZD 12 rfl Zl (fun w' hk' => X.loadS Zi5 (hso1.keep ((hk5.trans hk6).trans hk')) (j := 2) hT2 rfl (fun _ h => by rw [h.1]; rfl)) ?_
   refine ZDc 13 rfl Zl (X.cvI Zu5 Zu3 rfl (X.w_i64 Zz))<|ZDc 14 rfl Zl (X.shl (c := ((c2.toNat * 2 ^ 16 : Nat) : Int)) rfl rfl (by decide) (shl64 c2.toNat 16 (by decide) Zz))<|ZDc 15 rfl Zl (X.or_ (c := ((((c0.toNat + 2 ^ 8 * c1.toNat) + 2 ^ 16 * c2.toNat) : Nat) : Int)) rfl rfl (or64 (c0.toNat + 2 ^ 8 * c1.toNat) c2.toNat 16 Zz (by decide) Zz))<|ZDc 16 rfl Zl (Zdms rfl)<|ZD 17 rfl Zl (fun w' hk' => X.idxS (hso1.keep ((hk5.trans hk6).trans hk')) Zu81 Zs5 rfl rfl ⟨by omega, by omega⟩)<|ZD 18 rfl Zl (fun w' hk' => X.loadS Zi5 (hso1.keep ((hk5.trans hk6).trans hk')) (j := 3) hT3 rfl (fun _ h => by rw [h.1]; rfl)) ?_
   refine ZDc 19 rfl Zl (X.cvI Zu5 Zu3 rfl (X.w_i64 Zz))<|ZDc 20 rfl Zl (X.shl (c := ((c3.toNat * 2 ^ 24 : Nat) : Int)) rfl rfl (by decide) (shl64 c3.toNat 24 (by decide) Zz))<|ZDc 21 rfl Zl (X.or_ (c := (((le4 (openC (xs.drop (n - 8))).2) : Nat) : Int)) rfl rfl (by rw [show (le4 (openC (xs.drop (n - 8))).2) = (((c0.toNat + 2 ^ 8 * c1.toNat) + 2 ^ 16 * c2.toNat) + 2 ^ 24 * c3.toNat) by omega]; exact or64 ((c0.toNat + 2 ^ 8 * c1.toNat) + 2 ^ 16 * c2.toNat) c3.toNat 24 Zz (by decide) Zz)) ?_
   refine X.dStep (i := 22) Zl rfl (X.dwN rfl) (X.assign (v := .int .i64 _) rfl) (fun h => absurd h (by decide))<|Zdend Zl<|Zs<|Zs<|Zr<|Zomi rfl rfl<|Zomi rfl rfl<|X.opP X.wN rfl rfl (X.gtr rfl rfl) (fun h61 => ?_) (fun h61 => ?_)
   ·
    refine Ze<|Zt rfl<|Zr<|Zo (X.buildB (vs := []) (cs := #[]) rfl Zl) rfl<|Zo (X.mkIface Zu171 rfl rfl) rfl<|X.opPanic X.wN rfl ?_
    have hN : idxP xs = none := by rw [hE1]; subst hsl; exact idx_d Zz
    refine X.unw_defer Zc78 (fun h => by cases h) (rcaught_1 _ _ _ (hB3.keep ((hk4.trans hk5).trans hk6))) ?_
    rintro m wz ⟨rfl, hBz, hxz⟩
    have hxz' := hxz.size
    show X.Unw _ _ _ FrameMode.returning _ _ _ _
    refine X.unw_defer Zc77 (fun h => by cases h) (X.DCall.of_ret (zeroI1_c _ _ _ _ _ _ hBz ((hB1.keep ((((hk2.trans hk3).trans hk4).trans hk5).trans hk6)).ext hxz zq35) ((hB2.keep (((hk3.trans hk4).trans hk5).trans hk6)).ext hxz zq35) Zz Zz Zz)) ?_
    rintro m wq ⟨rfl, vq, hq1, hq2, hq3, hq4⟩
    show X.Unw _ _ _ FrameMode.returning _ _ _ _
    refine X.unwR3 Zf37 Zr37 (X.ResOk.cell rfl (X.lv1 Zi96 hq2 rfl)) (X.ResOk.cell rfl (X.lv1 Zi3 hq3 rfl)) (X.ResOk.cell rfl (X.lv1 Zi25 hq1 rfl)) ?_
    rw [hN]
    exact ⟨rfl, (((((((hk1.trans hk2).trans hk3).trans hk4).trans hk5).trans hk6)).step hxz zq24).step hq4 zq24⟩
   ·refine Ze<|Zf rfl<|Zk<|Zs<|Zr<|Zomi rfl rfl<|Zomi rfl rfl<|Zo (X.sub (c := (((n - 8 - (le4 (openC (xs.drop (n - 8))).2)) : Nat) : Int)) rfl rfl (by rw [X.w_i64 Zz]; omega)) rfl ?_
    refine Zoai rfl rfl<|Ze<|Zs<|Zr<|Zoms rfl rfl<|Zomi rfl rfl<|Zomi rfl rfl<|Zomi rfl rfl<|Zo (X.add (c := (((n - 8 - (le4 (openC (xs.drop (n - 8))).2)) + (le4 (openC (xs.drop (n - 8))).2) : Nat) : Int)) rfl rfl (by rw [X.w_i64 Zz]; omega)) rfl ?_
    refine Zo (X.cutLH Zu81 Zs5 rfl rfl rfl Zz) rfl<|Zc (X.callE (Open_c _ (((hs.take ((n - 8 - (le4 (openC (xs.drop (n - 8))).2)) + (le4 (openC (xs.drop (n - 8))).2)) Zz).drop (n - 8 - (le4 (openC (xs.drop (n - 8))).2)) c Zz Zz).keep (((((hk1.trans hk2).trans hk3).trans hk4).trans hk5).trans hk6)) Zz Zz (hTb.keep (((((hk1.trans hk2).trans hk3).trans hk4).trans hk5).trans hk6))) Zc79 rfl rfl) rfl ?_
    rintro _ w7 ⟨v7, rfl, hF7⟩
    obtain ⟨Ao2, co2, rfl, hco2, hso2, hk7⟩ := open_sl hF7
    have hk7' := hk7.size
    refine Zom rfl rfl<|Zo (X.extr rfl rfl) rfl<|Zo (X.extr rfl rfl) rfl<|Zoas rfl rfl<|Zoai rfl rfl<|Ze<|Zs<|Zr<|Zomi rfl rfl<|X.opPR (must_c _ _) X.wN rfl Zc80 rfl (fun b8 hb8 => ?_) (fun hb8 => ?_)
    ·rintro _ w8 ⟨rfl, hk8⟩
     have hk8' := hk8.size
     have ho2 := okE_s hb8
     obtain ⟨g3, g4⟩ := open_len ho2
     have hE2 : idxP xs = idx3 (n - 8 - (le4 (openC (xs.drop (n - 8))).2)) (openC ((xs.take ((n - 8 - (le4 (openC (xs.drop (n - 8))).2)) + (le4 (openC (xs.drop (n - 8))).2))).drop (n - 8 - (le4 (openC (xs.drop (n - 8))).2)))).2 := by rw [hE1]; subst hsl; exact idx_f Zz ho2
     have hx0 : (openC ((xs.take ((n - 8 - (le4 (openC (xs.drop (n - 8))).2)) + (le4 (openC (xs.drop (n - 8))).2))).drop (n - 8 - (le4 (openC (xs.drop (n - 8))).2)))).2.length ≤ 1000000 := by rw [g4, List.length_take, List.length_drop, List.length_take]; omega
     refine Ze<|Zs<|Zr<|Zoms rfl rfl<|X.opPR (rnum_c _ (hso2.keep hk8) Zz Zz Zz) X.wN rfl Zc81 rfl (fun z1 hz1 => ?_) (fun hz1 => ?_)
     ·rintro _ w9 ⟨An1, cn1, rfl, hnc1, _, hnl1, hsn1, hk9⟩
      have hk9' := hk9.size
      obtain ⟨pre1, _, hp1⟩ := pNum_suf hz1
      have hq1 := congrArg List.length hp1
      rw [List.length_append] at hq1
      have hr1 := List.length_pos_iff.2 ‹pre1 ≠ []›
      refine Zom rfl rfl<|Zo (X.extr rfl rfl) rfl<|Zo (X.extr rfl rfl) rfl<|Zoau rfl rfl<|Zoas rfl rfl<|Ze<|Zs<|Zr<|Zoms rfl rfl<|X.opPR (rnum_c _ hsn1 Zz Zz Zz) X.wN rfl Zc81 rfl (fun z2 hz2 => ?_) (fun hz2 => ?_)
      ·rintro _ w10 ⟨An2, cn2, rfl, hnc2, _, hnl2, hsn2, hk10⟩
       have hk10' := hk10.size
       obtain ⟨pre2, _, hp2⟩ := pNum_suf hz2
       have hq2 := congrArg List.length hp2
       rw [List.length_append] at hq2
       have hr2 := List.length_pos_iff.2 ‹pre2 ≠ []›
       refine Zom rfl rfl<|Zo (X.extr rfl rfl) rfl<|Zo (X.extr rfl rfl) rfl<|Zoau rfl rfl<|Zoas rfl rfl<|Ze<|Zs<|Zs<|Zr<|Zomu rfl rfl<|X.opP X.wN rfl rfl (X.gtr rfl rfl) (fun h90 => ?_) (fun h90 => ?_)
       ·
        refine Ze<|Zt rfl<|Zr<|Zo (X.buildB (vs := []) (cs := #[]) rfl Zl) rfl<|Zo (X.mkIface Zu171 rfl rfl) rfl<|X.opPanic X.wN rfl ?_
        have hN : idxP xs = none := by rw [hE2]; exact idx_i hz1 hz2 Zz
        refine X.unw_defer Zc78 (fun h => by cases h) (rcaught_1 _ _ _ (hB3.keep ((((((hk4.trans hk5).trans hk6).trans hk7).trans hk8).trans hk9).trans hk10))) ?_
        rintro m wz ⟨rfl, hBz, hxz⟩
        have hxz' := hxz.size
        show X.Unw _ _ _ FrameMode.returning _ _ _ _
        refine X.unw_defer Zc77 (fun h => by cases h) (X.DCall.of_ret (zeroI1_c _ _ _ _ _ _ hBz ((hB1.keep ((((((((hk2.trans hk3).trans hk4).trans hk5).trans hk6).trans hk7).trans hk8).trans hk9).trans hk10)).ext hxz zq35) ((hB2.keep (((((((hk3.trans hk4).trans hk5).trans hk6).trans hk7).trans hk8).trans hk9).trans hk10)).ext hxz zq35) Zz Zz Zz)) ?_
        rintro m wq ⟨rfl, vq, hq1, hq2, hq3, hq4⟩
        show X.Unw _ _ _ FrameMode.returning _ _ _ _
        refine X.unwR3 Zf37 Zr37 (X.ResOk.cell rfl (X.lv1 Zi96 hq2 rfl)) (X.ResOk.cell rfl (X.lv1 Zi3 hq3 rfl)) (X.ResOk.cell rfl (X.lv1 Zi25 hq1 rfl)) ?_
        rw [hN]
        exact ⟨rfl, (((((((((((hk1.trans hk2).trans hk3).trans hk4).trans hk5).trans hk6).trans hk7).trans hk8).trans hk9).trans hk10)).step hxz zq24).step hq4 zq24⟩
       ·have hE3 : idxP xs = (parts (n - 8 - (le4 (openC (xs.drop (n - 8))).2)) z1.1 0 none z2.2).map fun l => (l, z2.1) := by rw [hE2]; exact idx_j hz1 hz2 Zz
        refine Ze<|Zf rfl<|Zk<|Zs<|Zr<|Zoa rfl rfl<|Ze<|Zs<|Zs<|Zr<|Zomu rfl rfl<|Zom rfl rfl<|Ze<|Zb<|X.loopL (σ := Nat × Nat × Value × Option Addr × Nat × Nat × List UInt8) (fun s => [(2, .pointer (some ⟨w.heap.size, 0, none⟩)), (3, .pointer (some ⟨w1.heap.size, 0, none⟩)), (4, .pointer (some ⟨w2.heap.size, 0, none⟩)), (5, .int .i64 ((((n - 8 - (le4 (openC (xs.drop (n - 8))).2)) : Nat) : Int) : Int)), (9, .slice s.2.2.2.1 s.2.2.2.2.1 s.2.2.2.2.2.1), (11, .int .u64 ((z2.1 : Nat) : Int)), (12, .int .i64 (s.2.1 : Int)), (93, .int .u64 ((z1.1 : Nat) : Int)), (94, .int .u64 (s.1 : Int))]) (fun s w' => s.1 ≤ z1.1 ∧ s.2.1 ≤ (n - 8 - (le4 (openC (xs.drop (n - 8))).2)) ∧ Keep w w' ∧ Blk w' w.heap.size [s.2.2.1] 96 ∧ Blk w' w1.heap.size [.int .i64 0] 3 ∧ Blk w' w2.heap.size [.int .i64 0] 25 ∧ s.2.2.2.2.1 = s.2.2.2.2.2.2.length ∧ s.2.2.2.2.1 ≤ s.2.2.2.2.2.1 ∧ w10.heap.size ≤ w'.heap.size ∧ ∃ lo9 hi9, Sl KB lo9 hi9 w' s.2.2.2.1 s.2.2.2.2.1 s.2.2.2.2.2.2 ∧ w3.heap.size ≤ lo9 ∧ hi9 ≤ w10.heap.size ∧ ∃ L l S G, NRow NdLf 109 w10.heap.size w'.heap.size S G w' s.2.2.1 L l ∧ l.length + s.2.2.2.2.1 ≤ 1000000 ∧ idxP xs = ((parts (n - 8 - (le4 (openC (xs.drop (n - 8))).2)) (z1.1 - s.1) s.2.1 (lastT l) s.2.2.2.2.2.2).map (l ++ ·)).map fun l => (l, z2.1)) (fun s => z1.1 - s.1) (0, 0, .slice none 0 0, An2, z2.2.length, cn2, z2.2) ⟨rfl, rfl, rfl, rfl, rfl, rfl, rfl, rfl, rfl, trivial⟩ ⟨Nat.zero_le _, Nat.zero_le _, (((((((((hk1.trans hk2).trans hk3).trans hk4).trans hk5).trans hk6).trans hk7).trans hk8).trans hk9).trans hk10), (hB1.keep ((((((((hk2.trans hk3).trans hk4).trans hk5).trans hk6).trans hk7).trans hk8).trans hk9).trans hk10)), (hB2.keep (((((((hk3.trans hk4).trans hk5).trans hk6).trans hk7).trans hk8).trans hk9).trans hk10)), (hB3.keep ((((((hk4.trans hk5).trans hk6).trans hk7).trans hk8).trans hk9).trans hk10)), rfl, hnc2, by (try dsimp only); omega, _, _, hsn2, by omega, by omega, [], [], _, _, NRow.nil _ _ _ _ (Nat.le_refl _), by (try dsimp only); simp; omega, by (try dsimp only); rw [hE3, Nat.sub_zero]; exact map_nil⟩ ?_
        rintro ⟨i, a, v, A9, n9, c9, x9⟩ b w1 ⟨hi0, ha, hk, hB2, hB3, hB4, h9l, h9c, hbs, lo9, hi9, hs9, hlo9, hhi9, L, l, S, G, hNR, hll, hE⟩ hback
        dsimp only
        dsimp only at hi0 ha hB2 h9l h9c hs9 hNR hll hE
        have hk0 := hk.size
        obtain ⟨Av, cv, rfl, hcv, hsv⟩ := hNR.rd
        refine Zs<|Zr<|X.opP X.wN rfl rfl (X.lss rfl rfl) (fun h95 => ?_) (fun h95 => ?_)
        ·obtain ⟨k, hki⟩ : ∃ k, z1.1 - i = k + 1 := ⟨z1.1 - i - 1, by omega⟩
         refine Ze<|Zs<|Zt rfl<|Zk<|Zs<|Zb<|Zs<|Zr<|Zoa rfl rfl<|Ze<|Zs<|Zr<|Zoms rfl rfl<|X.opPR (rnum_c _ hs9 Zz Zz Zz) X.wN rfl Zc81 rfl (fun z3 hz3 => ?_) (fun hz3 => ?_)
         ·rintro _ w11 ⟨An3, cn3, rfl, hnc3, _, hnl3, hsn3, hk11⟩
          have hk11' := hk11.size
          obtain ⟨pre3, _, hp3⟩ := pNum_suf hz3
          have hq3 := congrArg List.length hp3
          rw [List.length_append] at hq3
          have hr3 := List.length_pos_iff.2 ‹pre3 ≠ []›
          refine Zom rfl rfl<|Zo (X.extr rfl rfl) rfl<|Zo (X.extr rfl rfl) rfl<|Zoau rfl rfl<|Zoas rfl rfl<|Ze<|Zs<|Zr<|Zoms rfl rfl<|Zc (X.callE (TakeText_c 1048576 ⟨by decide, by decide⟩ _ (hsn3.wide (Nat.zero_le _) Zz) Zz Zz) Tryz.call82 rfl rfl) rfl ?_
          rintro _ w12 ⟨vt, rfl, hMt, hk12⟩
          have hk12' := hk12.size
          refine Zom rfl rfl<|Zo (X.extr rfl rfl) rfl<|Zo (X.extr rfl rfl) rfl<|Zo (X.extr rfl rfl) rfl<|Zoa rfl rfl<|Zoai rfl rfl<|Zoai rfl rfl<|Ze<|Zs<|Zr<|Zomi rfl rfl<|X.opPR (must_c _ _) X.wN rfl Zc80 rfl (fun b13 hb13 => ?_) (fun hb13 => ?_)
          ·rintro _ w13 ⟨rfl, hk13⟩
           have hk13' := hk13.size
           obtain ⟨y, hy⟩ := okE_some hb13
           obtain ⟨pre, hpre, hxy⟩ := pText_suf hy
           have hyf := pText_fst hy
           have hyl : y.2.length ≤ z3.2.length := by omega
           have hcn : cnt (pText 1048576 z3.2) z3.2.length = ((z3.2.length - y.2.length : Nat) : Int) := by rw [hy]; show (z3.2.length : Int) - (y.2.length : Int) = _; omega
           have htd : told (pText 1048576 z3.2) [] = y.1 := by rw [hy]; rfl
           have htl : (told (pText 1048576 z3.2) []).length ≤ 1000000 := by rw [htd]; omega
           refine Ze<|Zs<|Zr<|Zoms rfl rfl<|Zomi rfl rfl ?_
           have hsd := ((hsn3.keep (hk12.trans hk13))).drop (cnt (pText 1048576 z3.2) z3.2.length).toNat cn3 Zz Zz
           rw [show z3.2.drop (cnt (pText 1048576 z3.2) z3.2.length).toNat = y.2 by rw [hcn, Int.toNat_natCast]; exact suf_drop hxy] at hsd
           refine Zo (X.cutL (m := cnt (pText 1048576 z3.2) z3.2.length) Zu81 Zs5 rfl rfl ⟨by omega, by omega⟩) rfl<|Zoa rfl rfl<|Ze<|Zs<|Zr<|Zom rfl rfl ?_
           have q15 := (hMt.keep hk13).slF KB_flat 0 (fun _ _ => Nat.zero_le _)
           obtain ⟨A15, c15, rfl, hc15, hs15⟩ := q15
           refine Zc (X.callE (FromKey_c _ (hs15.wide (Nat.le_refl _) Zz) (by first | assumption | omega) htl) Tryz.call83 rfl rfl) rfl ?_
           rintro _ w14 ⟨vk, rfl, hMk, hk14⟩
           obtain ⟨Ak, ck, rfl, hck, hsk⟩ := mineKV_sl hMk
           have hk14' := hk14.size
           refine Zom rfl rfl<|Zo (X.extr rfl rfl) rfl<|Zo (X.extr rfl rfl) rfl<|Zoas rfl rfl<|Zoai rfl rfl<|Ze<|Zs<|Zr<|Zomi rfl rfl<|X.opPR (must_c _ _) X.wN rfl Zc80 rfl (fun b16 hb16 => ?_) (fun hb16 => ?_)
           ·rintro _ w16 ⟨rfl, hk16⟩
            have hk16' := hk16.size
            obtain ⟨t, ht⟩ : ∃ t, pFrom y.1 = some t := by
              have h0 := okE_s hb16
              rw [htd] at h0
              cases hp : pFrom y.1 with
              | none => rw [hp] at h0; exact absurd h0 (by decide)
              | some t => exact ⟨t, rfl⟩
            refine Ze<|Zs<|Zs<|Zr<|Zomu rfl rfl<|Zomi rfl rfl<|Zomi rfl rfl<|Zo (X.sub rfl rfl (X.w_i64 Zz)) rfl<|Zo (X.cvI Zu3 Zu154 rfl (X.w_u64 Zz)) rfl<|X.opP X.wN rfl rfl (X.gtr rfl rfl) (fun h124 => ?_) (fun h124 => ?_)
            ·have hskt := sl_cast hsk (show (pFrom (told (pText 1048576 z3.2) [])).getD [] = t by rw [htd, ht]; rfl)
             refine Zomt rfl rfl<|Zp rfl rfl rfl<|Zp rfl rfl rfl<|Zp rfl rfl rfl<|Zp rfl rfl rfl<|Zu rfl rfl rfl<|Zu rfl rfl rfl<|Zu rfl rfl rfl<|Zu rfl rfl rfl<|Zu rfl rfl rfl<|Zu rfl rfl rfl<|Zu rfl rfl rfl<|Zu rfl rfl rfl<|Zu rfl rfl rfl<|Zu rfl rfl rfl<|Zp rfl rfl rfl<|Zo (ZdTt rfl rfl) rfl<|Ze<|Zt rfl<|Zr<|Zo (X.buildB (vs := []) (cs := #[]) rfl Zl) rfl<|Zo (X.mkIface Zu171 rfl rfl) rfl<|X.opPanic X.wN rfl ?_
             have hN : idxP xs = none := by rw [hE, hki, parts_4 hz3 hy ht (.inl Zz)]; rfl
             refine X.unw_defer Zc78 (fun h => by cases h) (rcaught_1 _ _ _ (hB4.keep ((((hk11.trans hk12).trans hk13).trans hk14).trans hk16))) ?_
             rintro m wz ⟨rfl, hBz, hxz⟩
             have hxz' := hxz.size
             show X.Unw _ _ _ FrameMode.returning _ _ _ _
             refine X.unw_defer Zc77 (fun h => by cases h) (X.DCall.of_ret (zeroI1_c _ _ _ _ _ _ hBz ((hB2.keep ((((hk11.trans hk12).trans hk13).trans hk14).trans hk16)).ext hxz zq35) ((hB3.keep ((((hk11.trans hk12).trans hk13).trans hk14).trans hk16)).ext hxz zq35) Zz Zz Zz)) ?_
             rintro m wq ⟨rfl, vq, hq1, hq2, hq3, hq4⟩
             show X.Unw _ _ _ FrameMode.returning _ _ _ _
             refine X.unwR3 Zf37 Zr37 (X.ResOk.cell rfl (X.lv1 Zi96 hq2 rfl)) (X.ResOk.cell rfl (X.lv1 Zi3 hq3 rfl)) (X.ResOk.cell rfl (X.lv1 Zi25 hq1 rfl)) ?_
             rw [hN]
             exact ⟨rfl, (((((((hk.trans hk11).trans hk12).trans hk13).trans hk14).trans hk16)).step hxz zq24).step hq4 zq24⟩
            ·have hskt := sl_cast hsk (show (pFrom (told (pText 1048576 z3.2) [])).getD [] = t by rw [htd, ht]; rfl)
             refine Zomf rfl rfl<|Zg (X.load1B Zi96 (hB2.keep ((((hk11.trans hk12).trans hk13).trans hk14).trans hk16)) rfl rfl) rfl rfl rfl rfl<|Zg (X.lenSl Zu96 rfl) rfl rfl rfl rfl<|X.opP (X.wG rfl rfl rfl) rfl rfl (X.gtr rfl rfl) (fun h128 => ?_) (fun h128 => ?_)
             ·obtain ⟨xl, hxl⟩ : ∃ xl, L[l.length - 1]? = some xl := ⟨_, List.getElem?_eq_getElem (by rw [hNR.d.1]; omega)⟩
              obtain ⟨ql, hql, _, _, _, loq, hiq, _, hqs⟩ := hNR.d.2 _ _ hxl
              have hla := last_at hql
              have hxl' : L[((l.length : Int) - 1).toNat]? = some xl := by rw [show ((l.length : Int) - 1).toNat = l.length - 1 by omega]; exact hxl
              refine Zg (Zdmt rfl) rfl rfl rfl rfl<|Zg (X.load1B Zi96 (hB2.keep ((((hk11.trans hk12).trans hk13).trans hk14).trans hk16)) rfl rfl) rfl rfl rfl rfl<|Zg (X.load1B Zi96 (hB2.keep ((((hk11.trans hk12).trans hk13).trans hk14).trans hk16)) rfl rfl) rfl rfl rfl rfl<|Zg (X.lenSl Zu96 rfl) rfl rfl rfl rfl<|Zg (X.sub rfl rfl (X.w_i64 Zz)) rfl rfl rfl rfl<|Zg (X.idxS (hsv.keep ((((hk11.trans hk12).trans hk13).trans hk14).trans hk16)) Zu96 Zs109 rfl rfl ⟨by omega, by omega⟩) rfl rfl rfl rfl<|Zg (X.fldA Tryz.underlying109 rfl rfl Zs90) rfl rfl rfl rfl<|Zg (X.loadSf (o := 2) Zi90 (hsv.keep ((((hk11.trans hk12).trans hk13).trans hk14).trans hk16)) hxl' rfl (fun _ h => by rw [h.1]; rfl)) rfl rfl rfl rfl ?_
              refine Zg (Zdms rfl) rfl rfl rfl rfl<|X.opE (X.wG rfl rfl rfl) rfl (X.callE (tupleCompare_c _ (hqs.keep ((((hk11.trans hk12).trans hk13).trans hk14).trans hk16)) (hsk.keep hk16)) Zc84 rfl rfl) ?_
              rintro _ w17 ⟨rfl, hk17⟩
              have hk17' := hk17.size
              refine X.opP (X.wG rfl rfl rfl) rfl rfl (X.geq rfl rfl) (fun h139 => ?_) (fun h139 => ?_)
              ·have h139' : 0 ≤ cmpT ql.2.2 t := by
                 have h0 := h139
                 rw [show (pFrom (told (pText 1048576 z3.2) [])).getD [] = t by rw [htd, ht]; rfl] at h0
                 exact h0
               refine Zg (ZdTt rfl rfl) rfl rfl rfl rfl<|Zo (ZdFt rfl rfl) rfl<|Ze<|Zt rfl<|Zr<|Zo (X.buildB (vs := []) (cs := #[]) rfl Zl) rfl<|Zo (X.mkIface Zu171 rfl rfl) rfl<|X.opPanic X.wN rfl ?_
               have hN : idxP xs = none := by rw [hE, hki, parts_4 hz3 hy ht (.inr (by rw [hla]; exact decide_eq_true h139'))]; rfl
               refine X.unw_defer Zc78 (fun h => by cases h) (rcaught_1 _ _ _ (hB4.keep (((((hk11.trans hk12).trans hk13).trans hk14).trans hk16).trans hk17))) ?_
               rintro m wz ⟨rfl, hBz, hxz⟩
               have hxz' := hxz.size
               show X.Unw _ _ _ FrameMode.returning _ _ _ _
               refine X.unw_defer Zc77 (fun h => by cases h) (X.DCall.of_ret (zeroI1_c _ _ _ _ _ _ hBz ((hB2.keep (((((hk11.trans hk12).trans hk13).trans hk14).trans hk16).trans hk17)).ext hxz zq35) ((hB3.keep (((((hk11.trans hk12).trans hk13).trans hk14).trans hk16).trans hk17)).ext hxz zq35) Zz Zz Zz)) ?_
               rintro m wq ⟨rfl, vq, hq1, hq2, hq3, hq4⟩
               show X.Unw _ _ _ FrameMode.returning _ _ _ _
               refine X.unwR3 Zf37 Zr37 (X.ResOk.cell rfl (X.lv1 Zi96 hq2 rfl)) (X.ResOk.cell rfl (X.lv1 Zi3 hq3 rfl)) (X.ResOk.cell rfl (X.lv1 Zi25 hq1 rfl)) ?_
               rw [hN]
               exact ⟨rfl, ((((((((hk.trans hk11).trans hk12).trans hk13).trans hk14).trans hk16).trans hk17)).step hxz zq24).step hq4 zq24⟩
              ·have h139' : ¬ 0 ≤ cmpT ql.2.2 t := by
                 have h0 := h139
                 rw [show (pFrom (told (pText 1048576 z3.2) [])).getD [] = t by rw [htd, ht]; rfl] at h0
                 exact h0
               have hbad : ¬ badL (lastT l) t = true := by rw [hla]; exact fun h => h139' (of_decide_eq_true h)
               refine Zg (ZdTf rfl rfl) rfl rfl rfl rfl<|Zo (ZdFf rfl rfl) rfl<|Ze<|Zf rfl<|Zk<|Zs<|Zr<|Zo (X.load1B Zi96 (hB2.keep (((((hk11.trans hk12).trans hk13).trans hk14).trans hk16).trans hk17)) rfl rfl) rfl<|Zomi rfl rfl<|Zomu rfl rfl<|Zo (X.cvI Zu154 Zu3 rfl (X.w_i64 Zz)) rfl<|Zoms rfl rfl<|Zo (X.buildB (vs := [(0, .int .i64 (a : Int)), (1, .int .i64 ((z3.1 : Nat) : Int)), (2, .slice Ak ((pFrom (told (pText 1048576 z3.2) [])).getD []).length ck)]) (cs := #[.int .i64 (a : Int), .int .i64 ((z3.1 : Nat) : Int), .slice Ak ((pFrom (told (pText 1048576 z3.2) [])).getD []).length ck]) rfl Zl) rfl<|Zc (X.litKF KLf_flat (K := KLf) (xs := [Operand.tmp 149]) (vs := [evLf (a, z3.1, (Ak, ((pFrom (told (pText 1048576 z3.2) [])).getD []).length, ck))]) (ys := [(a, z3.1, (Ak, ((pFrom (told (pText 1048576 z3.2) [])).getD []).length, ck))]) Zu96 Zs109 Zv109 rfl rfl rfl rfl rfl (repsLf _)) rfl ?_
               rintro _ w18 ⟨rfl, hs18, hB18, hk18, hz18⟩
               refine Zc (NRow.app (y := (a, z3.1, (Ak, ((pFrom (told (pText 1048576 z3.2) [])).getD []).length, ck))) (q := (a, z3.1, t)) (hNR.keep ((((((hk11.trans hk12).trans hk13).trans hk14).trans hk16).trans hk17).trans hk18)) hs18 ⟨rfl, rfl, hck, _, _, fun _ h1 h2 => ⟨h1, h2⟩, hskt.keep ((hk16.trans hk17).trans hk18)⟩ Zz Zz Zz Zu96 ELf rfl rfl Zz) rfl ?_
               rintro _ w19 ⟨Aq, cq, S', G', rfl, hNn, hx19⟩
               have hx19' := hx19.size
               refine Zc (X.storeE Zs96 ((hB2.keep ((((((hk11.trans hk12).trans hk13).trans hk14).trans hk16).trans hk17).trans hk18)).ext hx19 zq3) rfl rfl rfl rfl) rfl ?_
               rintro _ w20 ⟨hB20, hx20, hz20⟩
               refine Ze<|Zr<|Zomi rfl rfl<|Zomu rfl rfl<|Zo (X.cvI Zu154 Zu3 rfl (X.w_i64 Zz)) rfl<|Zo (X.add (c := ((a + z3.1 : Nat) : Int)) rfl rfl (by rw [X.w_i64 Zz]; omega)) rfl ?_
               refine Zoai rfl rfl<|Ze<|Zi<|Zr<|Zo (X.add (c := ((i + 1 : Nat) : Int)) rfl rfl (by rw [X.w_u64 Zz]; omega)) rfl ?_
               refine Zomu rfl rfl<|Ze ?_
               refine hback (i + 1, a + z3.1, .slice Aq (l ++ [(a, z3.1, t)]).length cq, _, _, _, y.2) _ _ ⟨rfl, rfl, rfl, rfl, rfl, rfl, rfl, rfl, rfl, trivial⟩ ⟨by (try dsimp only); omega, by (try dsimp only); omega, (((((((((hk.trans hk11).trans hk12).trans hk13).trans hk14).trans hk16).trans hk17).trans hk18).step hx19 zq17).step hx20 zq17), hB20, (((hB3.keep ((((((hk11.trans hk12).trans hk13).trans hk14).trans hk16).trans hk17).trans hk18)).ext hx19 zq3).ext hx20 zq3), (((hB4.keep ((((((hk11.trans hk12).trans hk13).trans hk14).trans hk16).trans hk17).trans hk18)).ext hx19 zq3).ext hx20 zq3), ?_, ?_, by (try dsimp only); omega, _, _, (((hsd.keep (((hk14.trans hk16).trans hk17).trans hk18)).ext hx19 zq3).ext hx20 zq3), hlo9, hhi9, L ++ [_], l ++ [(a, z3.1, t)], S', G', ((hNn.ext hx20 zq3)).all, ?_, ?_⟩ ?_
               ·(try dsimp only); rw [hcn, Int.toNat_natCast]; omega
               ·(try dsimp only); rw [hcn, Int.toNat_natCast]; omega
               ·(try dsimp only); rw [List.length_append, List.length_singleton, hcn, Int.toNat_natCast]; omega
               ·(try dsimp only); rw [hE, hki, parts_5 hz3 hy ht (by intro hh; rcases hh with hh | hh; omega; exact hbad hh), map_snoc, lastT_snoc, show z1.1 - (i + 1) = k by omega]
               ·(try dsimp only); omega
             ·have hbad : ¬ badL (lastT l) t = true := by rw [last_nil Zz]; exact fun h => by cases h
              refine Zg (Zdmf rfl) rfl rfl rfl rfl<|Zp rfl rfl rfl<|Zp rfl rfl rfl<|Zp rfl rfl rfl<|Zp rfl rfl rfl<|Zp rfl rfl rfl<|Zp rfl rfl rfl<|Zp rfl rfl rfl<|Zp rfl rfl rfl<|Zp rfl rfl rfl<|Zp rfl rfl rfl<|Zg (ZdFf rfl rfl) rfl rfl rfl rfl<|Zo (ZdFf rfl rfl) rfl<|Ze<|Zf rfl<|Zk<|Zs<|Zr<|Zo (X.load1B Zi96 (hB2.keep ((((hk11.trans hk12).trans hk13).trans hk14).trans hk16)) rfl rfl) rfl<|Zomi rfl rfl<|Zomu rfl rfl<|Zo (X.cvI Zu154 Zu3 rfl (X.w_i64 Zz)) rfl<|Zoms rfl rfl<|Zo (X.buildB (vs := [(0, .int .i64 (a : Int)), (1, .int .i64 ((z3.1 : Nat) : Int)), (2, .slice Ak ((pFrom (told (pText 1048576 z3.2) [])).getD []).length ck)]) (cs := #[.int .i64 (a : Int), .int .i64 ((z3.1 : Nat) : Int), .slice Ak ((pFrom (told (pText 1048576 z3.2) [])).getD []).length ck]) rfl Zl) rfl<|Zc (X.litKF KLf_flat (K := KLf) (xs := [Operand.tmp 149]) (vs := [evLf (a, z3.1, (Ak, ((pFrom (told (pText 1048576 z3.2) [])).getD []).length, ck))]) (ys := [(a, z3.1, (Ak, ((pFrom (told (pText 1048576 z3.2) [])).getD []).length, ck))]) Zu96 Zs109 Zv109 rfl rfl rfl rfl rfl (repsLf _)) rfl ?_
              rintro _ w21 ⟨rfl, hs21, hB21, hk21, hz21⟩
              refine Zc (NRow.app (y := (a, z3.1, (Ak, ((pFrom (told (pText 1048576 z3.2) [])).getD []).length, ck))) (q := (a, z3.1, t)) (hNR.keep (((((hk11.trans hk12).trans hk13).trans hk14).trans hk16).trans hk21)) hs21 ⟨rfl, rfl, hck, _, _, fun _ h1 h2 => ⟨h1, h2⟩, hskt.keep (hk16.trans hk21)⟩ Zz Zz Zz Zu96 ELf rfl rfl Zz) rfl ?_
              rintro _ w22 ⟨Aq, cq, S', G', rfl, hNn, hx22⟩
              have hx22' := hx22.size
              refine Zc (X.storeE Zs96 ((hB2.keep (((((hk11.trans hk12).trans hk13).trans hk14).trans hk16).trans hk21)).ext hx22 zq3) rfl rfl rfl rfl) rfl ?_
              rintro _ w23 ⟨hB23, hx23, hz23⟩
              refine Ze<|Zr<|Zomi rfl rfl<|Zomu rfl rfl<|Zo (X.cvI Zu154 Zu3 rfl (X.w_i64 Zz)) rfl<|Zo (X.add (c := ((a + z3.1 : Nat) : Int)) rfl rfl (by rw [X.w_i64 Zz]; omega)) rfl ?_
              refine Zoai rfl rfl<|Ze<|Zi<|Zr<|Zo (X.add (c := ((i + 1 : Nat) : Int)) rfl rfl (by rw [X.w_u64 Zz]; omega)) rfl ?_
              refine Zomu rfl rfl<|Ze ?_
              refine hback (i + 1, a + z3.1, .slice Aq (l ++ [(a, z3.1, t)]).length cq, _, _, _, y.2) _ _ ⟨rfl, rfl, rfl, rfl, rfl, rfl, rfl, rfl, rfl, trivial⟩ ⟨by (try dsimp only); omega, by (try dsimp only); omega, ((((((((hk.trans hk11).trans hk12).trans hk13).trans hk14).trans hk16).trans hk21).step hx22 zq17).step hx23 zq17), hB23, (((hB3.keep (((((hk11.trans hk12).trans hk13).trans hk14).trans hk16).trans hk21)).ext hx22 zq3).ext hx23 zq3), (((hB4.keep (((((hk11.trans hk12).trans hk13).trans hk14).trans hk16).trans hk21)).ext hx22 zq3).ext hx23 zq3), ?_, ?_, by (try dsimp only); omega, _, _, (((hsd.keep ((hk14.trans hk16).trans hk21)).ext hx22 zq3).ext hx23 zq3), hlo9, hhi9, L ++ [_], l ++ [(a, z3.1, t)], S', G', ((hNn.ext hx23 zq3)).all, ?_, ?_⟩ ?_
              ·(try dsimp only); rw [hcn, Int.toNat_natCast]; omega
              ·(try dsimp only); rw [hcn, Int.toNat_natCast]; omega
              ·(try dsimp only); rw [List.length_append, List.length_singleton, hcn, Int.toNat_natCast]; omega
              ·(try dsimp only); rw [hE, hki, parts_5 hz3 hy ht (by intro hh; rcases hh with hh | hh; omega; exact hbad hh), map_snoc, lastT_snoc, show z1.1 - (i + 1) = k by omega]
              ·(try dsimp only); omega
           ·rintro w16 hx16
            have hx16' := hx16.size
            have hN : idxP xs = none := by
              have h0 := okE_n hb16
              rw [htd] at h0
              have hp : pFrom y.1 = none := by
                cases hp : pFrom y.1 with
                | none => rfl
                | some t => rw [hp] at h0; exact absurd rfl h0
              rw [hE, hki, parts_3 hz3 hy hp]; rfl
            refine X.unw_defer Zc78 (fun h => by cases h) (rcaught_1 _ _ _ ((hB4.keep (((hk11.trans hk12).trans hk13).trans hk14)).ext hx16 zq3)) ?_
            rintro m wz ⟨rfl, hBz, hxz⟩
            have hxz' := hxz.size
            show X.Unw _ _ _ FrameMode.returning _ _ _ _
            refine X.unw_defer Zc77 (fun h => by cases h) (X.DCall.of_ret (zeroI1_c _ _ _ _ _ _ hBz (((hB2.keep (((hk11.trans hk12).trans hk13).trans hk14)).ext hx16 zq3).ext hxz zq35) (((hB3.keep (((hk11.trans hk12).trans hk13).trans hk14)).ext hx16 zq3).ext hxz zq35) Zz Zz Zz)) ?_
            rintro m wq ⟨rfl, vq, hq1, hq2, hq3, hq4⟩
            show X.Unw _ _ _ FrameMode.returning _ _ _ _
            refine X.unwR3 Zf37 Zr37 (X.ResOk.cell rfl (X.lv1 Zi96 hq2 rfl)) (X.ResOk.cell rfl (X.lv1 Zi3 hq3 rfl)) (X.ResOk.cell rfl (X.lv1 Zi25 hq1 rfl)) ?_
            rw [hN]
            exact ⟨rfl, (((((((hk.trans hk11).trans hk12).trans hk13).trans hk14).step hx16 zq17)).step hxz zq24).step hq4 zq24⟩
          ·rintro w13 hx13
           have hx13' := hx13.size
           have hN : idxP xs = none := by rw [hE, hki, parts_2 hz3 (okE_none hb13)]; rfl
           refine X.unw_defer Zc78 (fun h => by cases h) (rcaught_1 _ _ _ ((hB4.keep (hk11.trans hk12)).ext hx13 zq3)) ?_
           rintro m wz ⟨rfl, hBz, hxz⟩
           have hxz' := hxz.size
           show X.Unw _ _ _ FrameMode.returning _ _ _ _
           refine X.unw_defer Zc77 (fun h => by cases h) (X.DCall.of_ret (zeroI1_c _ _ _ _ _ _ hBz (((hB2.keep (hk11.trans hk12)).ext hx13 zq3).ext hxz zq35) (((hB3.keep (hk11.trans hk12)).ext hx13 zq3).ext hxz zq35) Zz Zz Zz)) ?_
           rintro m wq ⟨rfl, vq, hq1, hq2, hq3, hq4⟩
           show X.Unw _ _ _ FrameMode.returning _ _ _ _
           refine X.unwR3 Zf37 Zr37 (X.ResOk.cell rfl (X.lv1 Zi96 hq2 rfl)) (X.ResOk.cell rfl (X.lv1 Zi3 hq3 rfl)) (X.ResOk.cell rfl (X.lv1 Zi25 hq1 rfl)) ?_
           rw [hN]
           exact ⟨rfl, (((((hk.trans hk11).trans hk12).step hx13 zq17)).step hxz zq24).step hq4 zq24⟩
         ·rintro w11 hx11
          have hx11' := hx11.size
          have hN : idxP xs = none := by rw [hE, hki, parts_1 hz3]; rfl
          refine X.unw_defer Zc78 (fun h => by cases h) (rcaught_1 _ _ _ (hB4.ext hx11 zq3)) ?_
          rintro m wz ⟨rfl, hBz, hxz⟩
          have hxz' := hxz.size
          show X.Unw _ _ _ FrameMode.returning _ _ _ _
          refine X.unw_defer Zc77 (fun h => by cases h) (X.DCall.of_ret (zeroI1_c _ _ _ _ _ _ hBz ((hB2.ext hx11 zq3).ext hxz zq35) ((hB3.ext hx11 zq3).ext hxz zq35) Zz Zz Zz)) ?_
          rintro m wq ⟨rfl, vq, hq1, hq2, hq3, hq4⟩
          show X.Unw _ _ _ FrameMode.returning _ _ _ _
          refine X.unwR3 Zf37 Zr37 (X.ResOk.cell rfl (X.lv1 Zi96 hq2 rfl)) (X.ResOk.cell rfl (X.lv1 Zi3 hq3 rfl)) (X.ResOk.cell rfl (X.lv1 Zi25 hq1 rfl)) ?_
          rw [hN]
          exact ⟨rfl, (((hk.step hx11 zq17)).step hxz zq24).step hq4 zq24⟩
        ·refine Ze<|Zs<|Zf rfl<|Zx rfl<|Zs<|Zs<|Zr<|Zoms rfl rfl<|Zo (X.lenSl Zu81 rfl) rfl<|X.opP X.wN rfl rfl (X.gtr rfl rfl) (fun h159 => ?_) (fun h159 => ?_)
         ·
          refine Zomt rfl rfl<|Zp rfl rfl rfl<|Zp rfl rfl rfl<|Zp rfl rfl rfl<|Zo (ZdTt rfl rfl) rfl<|Ze<|Zt rfl<|Zr<|Zo (X.buildB (vs := []) (cs := #[]) rfl Zl) rfl<|Zo (X.mkIface Zu171 rfl rfl) rfl<|X.opPanic X.wN rfl ?_
          have hN : idxP xs = none := by
            rw [hE, show z1.1 - i = 0 by omega, parts, if_neg (fun h => by rw [h.1] at h9l; simp at h9l; omega)]; rfl
          refine X.unw_defer Zc78 (fun h => by cases h) (rcaught_1 _ _ _ hB4) ?_
          rintro m wz ⟨rfl, hBz, hxz⟩
          have hxz' := hxz.size
          show X.Unw _ _ _ FrameMode.returning _ _ _ _
          refine X.unw_defer Zc77 (fun h => by cases h) (X.DCall.of_ret (zeroI1_c _ _ _ _ _ _ hBz (hB2.ext hxz zq35) (hB3.ext hxz zq35) Zz Zz Zz)) ?_
          rintro m wq ⟨rfl, vq, hq1, hq2, hq3, hq4⟩
          show X.Unw _ _ _ FrameMode.returning _ _ _ _
          refine X.unwR3 Zf37 Zr37 (X.ResOk.cell rfl (X.lv1 Zi96 hq2 rfl)) (X.ResOk.cell rfl (X.lv1 Zi3 hq3 rfl)) (X.ResOk.cell rfl (X.lv1 Zi25 hq1 rfl)) ?_
          rw [hN]
          exact ⟨rfl, ((hk).step hxz zq24).step hq4 zq24⟩
         ·refine Zomf rfl rfl<|Zg (Zdmi rfl) rfl rfl rfl rfl<|Zg (Zdmi rfl) rfl rfl rfl rfl<|X.opP (X.wG rfl rfl rfl) rfl rfl (X.neI rfl rfl) (fun h163 => ?_) (fun h163 => ?_)
          ·
           refine Zo (ZdFt rfl rfl) rfl<|Ze<|Zt rfl<|Zr<|Zo (X.buildB (vs := []) (cs := #[]) rfl Zl) rfl<|Zo (X.mkIface Zu171 rfl rfl) rfl<|X.opPanic X.wN rfl ?_
           have hN : idxP xs = none := by
             rw [hE, show z1.1 - i = 0 by omega, parts, if_neg (fun h => by omega)]; rfl
           refine X.unw_defer Zc78 (fun h => by cases h) (rcaught_1 _ _ _ hB4) ?_
           rintro m wz ⟨rfl, hBz, hxz⟩
           have hxz' := hxz.size
           show X.Unw _ _ _ FrameMode.returning _ _ _ _
           refine X.unw_defer Zc77 (fun h => by cases h) (X.DCall.of_ret (zeroI1_c _ _ _ _ _ _ hBz (hB2.ext hxz zq35) (hB3.ext hxz zq35) Zz Zz Zz)) ?_
           rintro m wq ⟨rfl, vq, hq1, hq2, hq3, hq4⟩
           show X.Unw _ _ _ FrameMode.returning _ _ _ _
           refine X.unwR3 Zf37 Zr37 (X.ResOk.cell rfl (X.lv1 Zi96 hq2 rfl)) (X.ResOk.cell rfl (X.lv1 Zi3 hq3 rfl)) (X.ResOk.cell rfl (X.lv1 Zi25 hq1 rfl)) ?_
           rw [hN]
           exact ⟨rfl, ((hk).step hxz zq24).step hq4 zq24⟩
          ·refine Zo (ZdFf rfl rfl) rfl<|Ze<|Zf rfl<|Zk<|Zs<|Zr<|Zo (X.load1B Zi96 hB2 rfl rfl) rfl<|Zomu rfl rfl<|Zo (X.cvI Zu154 Zu3 rfl (X.w_i64 Zz)) rfl<|Zc (X.storeE Zs96 hB2 rfl rfl rfl rfl) rfl ?_
           rintro _ w24 ⟨hB24, hx24, hz24⟩
           refine Zc (X.storeE Zs3 (hB3.ext hx24 zq3) rfl rfl rfl rfl) rfl ?_
           rintro _ w25 ⟨hB25, hx25, hz25⟩
           refine Zc (X.storeE Zs25 ((hB4.ext hx24 zq3).ext hx25 zq3) rfl rfl rfl rfl) rfl ?_
           rintro _ w26 ⟨hB26, hx26, hz26⟩
           refine Ze<|X.ret_unw<|X.unw_defer Zc78 (fun h => by cases h) (rcaught_0 _ _) ?_
           rintro m wz ⟨rfl, rfl⟩
           show X.Unw _ _ _ FrameMode.returning _ _ _ _
           refine X.unw_defer Zc77 (fun h => by cases h) (X.DCall.of_ret (zeroI0_c _ _ _ _ hB26)) ?_
           rintro m wz ⟨rfl, vz, rfl⟩
           show X.Unw _ _ _ FrameMode.returning _ _ _ _
           refine X.unwR3 Zf37 Zr37 (X.ResOk.cell rfl (X.lv1 Zi96 ((hB24.ext hx25 zq3).ext hx26 zq3) rfl)) (X.ResOk.cell rfl (X.lv1 Zi3 (hB25.ext hx26 zq3) rfl)) (X.ResOk.cell rfl (X.lv1 Zi25 hB26 rfl)) ?_
           have hfin : idxP xs = some (l, z2.1) := by
             rw [hE, show z1.1 - i = 0 by omega, parts, if_pos ⟨List.eq_nil_of_length_eq_zero Zz, by omega⟩]; simp
           rw [hfin]
           have hNf := (((hNR.ext hx24 zq3).ext hx25 zq3).ext hx26 zq3)
           exact ⟨⟨_, L, _, S, G, rfl, hNf.low Zz⟩, (((hk.step hx24 zq17).step hx25 zq17).step hx26 zq17)⟩
      ·rintro w10 hx10
       have hx10' := hx10.size
       have hN : idxP xs = none := by rw [hE2]; exact idx_h hz1 hz2
       refine X.unw_defer Zc78 (fun h => by cases h) (rcaught_1 _ _ _ ((hB3.keep (((((hk4.trans hk5).trans hk6).trans hk7).trans hk8).trans hk9)).ext hx10 zq3)) ?_
       rintro m wz ⟨rfl, hBz, hxz⟩
       have hxz' := hxz.size
       show X.Unw _ _ _ FrameMode.returning _ _ _ _
       refine X.unw_defer Zc77 (fun h => by cases h) (X.DCall.of_ret (zeroI1_c _ _ _ _ _ _ hBz (((hB1.keep (((((((hk2.trans hk3).trans hk4).trans hk5).trans hk6).trans hk7).trans hk8).trans hk9)).ext hx10 zq3).ext hxz zq35) (((hB2.keep ((((((hk3.trans hk4).trans hk5).trans hk6).trans hk7).trans hk8).trans hk9)).ext hx10 zq3).ext hxz zq35) Zz Zz Zz)) ?_
       rintro m wq ⟨rfl, vq, hq1, hq2, hq3, hq4⟩
       show X.Unw _ _ _ FrameMode.returning _ _ _ _
       refine X.unwR3 Zf37 Zr37 (X.ResOk.cell rfl (X.lv1 Zi96 hq2 rfl)) (X.ResOk.cell rfl (X.lv1 Zi3 hq3 rfl)) (X.ResOk.cell rfl (X.lv1 Zi25 hq1 rfl)) ?_
       rw [hN]
       exact ⟨rfl, (((((((((((hk1.trans hk2).trans hk3).trans hk4).trans hk5).trans hk6).trans hk7).trans hk8).trans hk9).step hx10 zq17)).step hxz zq24).step hq4 zq24⟩
     ·rintro w9 hx9
      have hx9' := hx9.size
      have hN : idxP xs = none := by rw [hE2]; exact idx_g hz1
      refine X.unw_defer Zc78 (fun h => by cases h) (rcaught_1 _ _ _ ((hB3.keep ((((hk4.trans hk5).trans hk6).trans hk7).trans hk8)).ext hx9 zq3)) ?_
      rintro m wz ⟨rfl, hBz, hxz⟩
      have hxz' := hxz.size
      show X.Unw _ _ _ FrameMode.returning _ _ _ _
      refine X.unw_defer Zc77 (fun h => by cases h) (X.DCall.of_ret (zeroI1_c _ _ _ _ _ _ hBz (((hB1.keep ((((((hk2.trans hk3).trans hk4).trans hk5).trans hk6).trans hk7).trans hk8)).ext hx9 zq3).ext hxz zq35) (((hB2.keep (((((hk3.trans hk4).trans hk5).trans hk6).trans hk7).trans hk8)).ext hx9 zq3).ext hxz zq35) Zz Zz Zz)) ?_
      rintro m wq ⟨rfl, vq, hq1, hq2, hq3, hq4⟩
      show X.Unw _ _ _ FrameMode.returning _ _ _ _
      refine X.unwR3 Zf37 Zr37 (X.ResOk.cell rfl (X.lv1 Zi96 hq2 rfl)) (X.ResOk.cell rfl (X.lv1 Zi3 hq3 rfl)) (X.ResOk.cell rfl (X.lv1 Zi25 hq1 rfl)) ?_
      rw [hN]
      exact ⟨rfl, ((((((((((hk1.trans hk2).trans hk3).trans hk4).trans hk5).trans hk6).trans hk7).trans hk8).step hx9 zq17)).step hxz zq24).step hq4 zq24⟩
    ·rintro w8 hx8
     have hx8' := hx8.size
     have hN : idxP xs = none := by rw [hE1]; subst hsl; exact idx_e Zz (okE_n hb8)
     refine X.unw_defer Zc78 (fun h => by cases h) (rcaught_1 _ _ _ ((hB3.keep (((hk4.trans hk5).trans hk6).trans hk7)).ext hx8 zq3)) ?_
     rintro m wz ⟨rfl, hBz, hxz⟩
     have hxz' := hxz.size
     show X.Unw _ _ _ FrameMode.returning _ _ _ _
     refine X.unw_defer Zc77 (fun h => by cases h) (X.DCall.of_ret (zeroI1_c _ _ _ _ _ _ hBz (((hB1.keep (((((hk2.trans hk3).trans hk4).trans hk5).trans hk6).trans hk7)).ext hx8 zq3).ext hxz zq35) (((hB2.keep ((((hk3.trans hk4).trans hk5).trans hk6).trans hk7)).ext hx8 zq3).ext hxz zq35) Zz Zz Zz)) ?_
     rintro m wq ⟨rfl, vq, hq1, hq2, hq3, hq4⟩
     show X.Unw _ _ _ FrameMode.returning _ _ _ _
     refine X.unwR3 Zf37 Zr37 (X.ResOk.cell rfl (X.lv1 Zi96 hq2 rfl)) (X.ResOk.cell rfl (X.lv1 Zi3 hq3 rfl)) (X.ResOk.cell rfl (X.lv1 Zi25 hq1 rfl)) ?_
     rw [hN]
     exact ⟨rfl, (((((((((hk1.trans hk2).trans hk3).trans hk4).trans hk5).trans hk6).trans hk7).step hx8 zq17)).step hxz zq24).step hq4 zq24⟩
  ·rintro w5 hx5
   have hx5' := hx5.size
   have hN : idxP xs = none := by subst hsl; exact idx_b Zz (okE_n hb5)
   refine X.unw_defer Zc78 (fun h => by cases h) (rcaught_1 _ _ _ ((hB3.keep hk4).ext hx5 zq3)) ?_
   rintro m wz ⟨rfl, hBz, hxz⟩
   have hxz' := hxz.size
   show X.Unw _ _ _ FrameMode.returning _ _ _ _
   refine X.unw_defer Zc77 (fun h => by cases h) (X.DCall.of_ret (zeroI1_c _ _ _ _ _ _ hBz (((hB1.keep ((hk2.trans hk3).trans hk4)).ext hx5 zq3).ext hxz zq35) (((hB2.keep (hk3.trans hk4)).ext hx5 zq3).ext hxz zq35) Zz Zz Zz)) ?_
   rintro m wq ⟨rfl, vq, hq1, hq2, hq3, hq4⟩
   show X.Unw _ _ _ FrameMode.returning _ _ _ _
   refine X.unwR3 Zf37 Zr37 (X.ResOk.cell rfl (X.lv1 Zi96 hq2 rfl)) (X.ResOk.cell rfl (X.lv1 Zi3 hq3 rfl)) (X.ResOk.cell rfl (X.lv1 Zi25 hq1 rfl)) ?_
   rw [hN]
   exact ⟨rfl, ((((((hk1.trans hk2).trans hk3).trans hk4).step hx5 zq17)).step hxz zq24).step hq4 zq24⟩
def NdCt : Nd CT CD where
  K := KCt
  flat := KCt_flat
  R := fun TB w x q => x.2 = q.2 ∧ okI q.2 ∧ x.1.2.1 ≤ x.1.2.2 ∧ ∃ lo hi, (∀ k, lo ≤ k → k < hi → TB k) ∧ Sl KV lo hi w x.1.1 x.1.2.1 q.1
  ext := fun ⟨h1, h2, h3, lo, hi, h4, h5⟩ y hU => ⟨h1, h2, h3, lo, hi, h4, h5.ext y fun k a b => hU k (h4 k a b)⟩
  mono := fun ⟨h1, h2, h3, lo, hi, h4, h5⟩ hT => ⟨h1, h2, h3, lo, hi, fun k a b => hT k (h4 k a b), h5⟩
theorem kv_tight {lo hi lo' hi' : Nat} {w : World} {A : Option Addr} {n : Nat} {l : List VAL} (h : Sl KV lo hi w A n l) (hT : ∀ k, lo ≤ k → k < hi → lo' ≤ k ∧ k < hi') : Sl KV lo' hi' w A n l := by
  refine ⟨h.len, h.bound, fun hn => ?_⟩
  obtain ⟨ad, e, a1, a2, a3⟩ := h.at_ hn
  have hb := hT _ a1 a2
  exact ⟨ad, e, hb.1, hb.2, fun j y hy => by
    obtain ⟨cs, hr, hcc⟩ := a3 j y hy
    exact ⟨cs, KV_flat hr, hcc⟩⟩
theorem nrow_kc {tb base m : Nat} {S G : Nat → Prop} {w : World} {v : Value} {L : List CT} {l : List CD} (h : NRow NdCt tb base m S G w v L l) : ∃ A c, v = .slice A l.length c ∧ l.length ≤ c ∧ Sl KC base w.heap.size w A l.length l := by
  obtain ⟨A, c, e, hc, hs⟩ := h.rd
  refine ⟨A, c, e, hc, hd_kc (hs.wide (Nat.le_refl _) h.l1) ⟨h.d.1, fun i x hx => ?_⟩⟩
  obtain ⟨q, h1, h2, h3, h4, lo, hi, h5, h6⟩ := h.d.2 i x hx
  exact ⟨q, h1, h2, h3, h4, kv_tight h6 fun k a b => by have := h.g k (h5 k a b); omega⟩
def ents : Nat → List UInt8 → Option (List CD)
  | 0, x => if x = [] then some [] else none
  | k + 1, x => match pCnt x with
    | none => none
    | some (q, x1) => (ents k x1).map (q :: ·)
def pgF (t : List VAL) (o : Option (List CD)) : Option (List CD) := o.bind fun p => if p ≠ [] ∧ isR p = true ∧ cmpT (headT p) t = 0 then some p else none
def pgP (b : List UInt8) (t : List VAL) : Option (List CD) := if (openC b).1 ≠ 0 then none else match pNum 0 0 (openC b).2 with
  | none => none
  | some z => pgF t (ents z.1 z.2)
section
variable {b : List UInt8} {t : List VAL}
theorem pg_a (h : (openC b).1 ≠ 0) : pgP b t = none := if_pos h
theorem pg_b (h : (openC b).1 = 0) (h2 : pNum 0 0 (openC b).2 = none) : pgP b t = none := by rw [pgP, if_neg (by simp [h]), h2]
theorem pg_c {z : Nat × List UInt8} (h : (openC b).1 = 0) (h2 : pNum 0 0 (openC b).2 = some z) : pgP b t = pgF t (ents z.1 z.2) := by rw [pgP, if_neg (by simp [h]), h2]
theorem ents_a {k : Nat} {x : List UInt8} (h : pCnt x = none) : ents (k + 1) x = none := by rw [ents, h]
theorem ents_b {k : Nat} {x : List UInt8} {y : CD × List UInt8} (h : pCnt x = some y) : ents (k + 1) x = (ents k y.2).map (y.1 :: ·) := by obtain ⟨q, x1⟩ := y; rw [ents, h]
theorem pgF_T {l : List CD} (h1 : l ≠ []) (h2 : isR l = true) (h3 : cmpT (headT l) t = 0) : pgF t (some l) = some l := by show (if _ then _ else _) = _; rw [if_pos ⟨h1, h2, h3⟩]
theorem pgF_F {l : List CD} (h : ¬ (l ≠ [] ∧ isR l = true ∧ cmpT (headT l) t = 0)) : pgF t (some l) = none := by show (if _ then _ else _) = _; rw [if_neg h]
theorem emap_nil {o : Option (List CD)} : o = o.map (([] : List CD) ++ ·) := by cases o <;> rfl
theorem emap_snoc {o : Option (List CD)} {l : List CD} {q : CD} : ((o.map (q :: ·)).map (l ++ ·)) = o.map ((l ++ [q]) ++ ·) := by cases o <;> simp
end
theorem zeroP0_c (be bx : Nat) (w : World) (hE : Blk w be [.int .i64 0] 25) : Ret Tryz.prog 88 #[.pointer (some ⟨be, 0, none⟩), .pointer (some ⟨bx, 0, none⟩)] w fun _ w' => w' = w := by
 refine X.enter Zf88 rfl Tryz.ntmps88 rfl<|Zs<|Zr<|Zo (X.load1B Zi25 hE rfl rfl) rfl<|X.opP X.wN rfl rfl (X.neI rfl rfl) (fun h3 => ?_) (fun h3 => ?_)
 ·exact absurd rfl h3
 ·refine Ze<|Zf rfl<|Zk<|X.end0 Zf88 Tryz.results88 ?_
  rfl
theorem zeroP1_c (be bx : Nat) (x : Value) (w : World) (hE : Blk w be [.int .i64 71] 25) (hX : Blk w bx [x] 29) (h1 : bx ≠ be) : Ret Tryz.prog 88 #[.pointer (some ⟨be, 0, none⟩), .pointer (some ⟨bx, 0, none⟩)] w
    fun _ w' => Blk w' be [.int .i64 71] 25 ∧ Blk w' bx [.slice none 0 0] 29 ∧ Ext (fun k => k = bx) w w' := by
 refine X.enter Zf88 rfl Tryz.ntmps88 rfl<|Zs<|Zr<|Zo (X.load1B Zi25 hE rfl rfl) rfl<|X.opP X.wN rfl rfl (X.neI rfl rfl) (fun h3 => ?_) (fun h3 => ?_)
 ·refine Ze<|Zt rfl<|Zr<|Zc (X.storeE Zs29 hX rfl rfl rfl rfl) rfl ?_
  rintro _ w1 ⟨hB1, hx1, hz1⟩
  refine Ze<|X.end0 Zf88 Tryz.results88 ?_
  exact ⟨(hE.ext hx1 zq36), hB1, (Ext.andThen (Ext.refl (fun k => k = bx) _) hx1 zq30)⟩
 ·exact absurd (by decide) h3
theorem page_c {lo hi lo1 hi1 : Nat} {A A1 : Option Addr} {n c n1 c1 : Nat} {xs : List UInt8} {t : List VAL} (w : World) (hs : Sl KB lo hi w A n xs) (hhi : hi ≤ w.heap.size) (hnc : n ≤ c) (hn : n ≤ 1000000) (ht : Sl KV lo1 hi1 w A1 n1 t) (hh1 : hi1 ≤ w.heap.size) (hTb : TabOk w) : Ret Tryz.prog 42 #[.slice A n c, .slice A1 n1 c1] w fun r w' => (match pgP xs t with
    | some l => ∃ v L m S G, r = .tuple #[v, .int .i64 0] ∧ NRow NdCt 92 w.heap.size m S G w' v L l
    | none => r = .tuple #[.slice none 0 0, .int .i64 71]) ∧ Keep w w' := by
 have hsl := hs.len
 have htl := hTb.lt
 refine X.enter Zf42 rfl Tryz.ntmps42 rfl<|Zs<|Zr<|Zc (X.allocE Tryz.zeroValue29 rfl) rfl ?_
 rintro _ w1 ⟨rfl, hB1, hk1, hz1⟩
 refine Zc (X.allocE Tryz.zeroValue25 rfl) rfl ?_
 rintro _ w2 ⟨rfl, hB2, hk2, hz2⟩
 refine Ze<|Zs<|Zr<|Zo (X.mkFunc rfl) rfl<|X.opDefer X.wN rfl rfl<|Ze<|Zs<|Zr<|X.opDefer X.wN rfl rfl<|Ze<|Zs<|Zr<|Zoms rfl rfl<|Zc (X.callE (Open_c _ (hs.keep (hk1.trans hk2)) Zz Zz (hTb.keep (hk1.trans hk2))) Zc79 rfl rfl) rfl ?_
 rintro _ w3 ⟨v3, rfl, hF3⟩
 obtain ⟨Ao, co, rfl, hco, hso, hk3⟩ := open_sl hF3
 have hk3' := hk3.size
 refine Zom rfl rfl<|Zo (X.extr rfl rfl) rfl<|Zo (X.extr rfl rfl) rfl<|Zoas rfl rfl<|Zoai rfl rfl<|Ze<|Zs<|Zr<|Zomi rfl rfl<|X.opPR (must_c _ _) X.wN rfl Zc80 rfl (fun b4 hb4 => ?_) (fun hb4 => ?_)
 ·rintro _ w4 ⟨rfl, hk4⟩
  have hk4' := hk4.size
  have ho1 := okE_s hb4
  obtain ⟨g1, g2⟩ := open_len ho1
  have hx0 : (openC xs).2.length ≤ 1000000 := by rw [g2, List.length_take]; omega
  refine Ze<|Zs<|Zr<|Zoms rfl rfl<|X.opPR (rnum_c _ (hso.keep hk4) Zz Zz Zz) X.wN rfl Zc81 rfl (fun z1 hz1 => ?_) (fun hz1 => ?_)
  ·rintro _ w5 ⟨An1, cn1, rfl, hnc1, _, hnl1, hsn1, hk5⟩
   have hk5' := hk5.size
   obtain ⟨pre1, _, hp1⟩ := pNum_suf hz1
   have hq1 := congrArg List.length hp1
   rw [List.length_append] at hq1
   refine Zom rfl rfl<|Zo (X.extr rfl rfl) rfl<|Zo (X.extr rfl rfl) rfl<|Zoau rfl rfl<|Zoas rfl rfl<|Ze<|Zs<|Zs<|Zr<|Zomu rfl rfl<|Zom rfl rfl<|Ze<|Zb ?_
   have hE1 : pgP xs t = pgF t (ents z1.1 z1.2) := pg_c ho1 hz1
   refine X.loopL (σ := Nat × Value × Option Addr × Nat × Nat × List UInt8) (fun s => [(1, .slice A1 n1 c1), (4, .pointer (some ⟨w.heap.size, 0, none⟩)), (5, .pointer (some ⟨w1.heap.size, 0, none⟩)), (6, .slice s.2.2.1 s.2.2.2.1 s.2.2.2.2.1), (25, .int .u64 ((z1.1 : Nat) : Int)), (26, .int .u64 (s.1 : Int))]) (fun s w' => s.1 ≤ z1.1 ∧ Keep w w' ∧ Blk w' w.heap.size [s.2.1] 29 ∧ Blk w' w1.heap.size [.int .i64 0] 25 ∧ s.2.2.2.1 = s.2.2.2.2.2.length ∧ s.2.2.2.1 ≤ s.2.2.2.2.1 ∧ w5.heap.size ≤ w'.heap.size ∧ ∃ lo9 hi9, Sl KB lo9 hi9 w' s.2.2.1 s.2.2.2.1 s.2.2.2.2.2 ∧ w2.heap.size ≤ lo9 ∧ hi9 ≤ w5.heap.size ∧ ∃ L l S G, NRow NdCt 92 w5.heap.size w'.heap.size S G w' s.2.1 L l ∧ l.length + s.2.2.2.1 ≤ 1000000 ∧ pgP xs t = pgF t ((ents (z1.1 - s.1) s.2.2.2.2.2).map (l ++ ·))) (fun s => z1.1 - s.1) (0, .slice none 0 0, An1, z1.2.length, cn1, z1.2) ⟨rfl, rfl, rfl, rfl, rfl, rfl, trivial⟩ ⟨Nat.zero_le _, ((((hk1.trans hk2).trans hk3).trans hk4).trans hk5), (hB1.keep (((hk2.trans hk3).trans hk4).trans hk5)), (hB2.keep ((hk3.trans hk4).trans hk5)), rfl, hnc1, by (try dsimp only); omega, _, _, hsn1, by omega, by omega, [], [], _, _, NRow.nil _ _ _ _ (Nat.le_refl _), by (try dsimp only); simp; omega, by (try dsimp only); rw [hE1, Nat.sub_zero, ← emap_nil]⟩ ?_
   rintro ⟨i, v, A6, n6, c6, x6⟩ b w1 ⟨hi0, hk, hB4, hB5, h6l, h6c, hbs, lo9, hi9, hs6, hlo9, hhi9, L, l, S, G, hNR, hll, hE⟩ hback
   dsimp only
   dsimp only at hi0 hB4 h6l h6c hs6 hNR hll hE
   have hk0 := hk.size
   obtain ⟨Av, cv, rfl, hcv, hsv⟩ := hNR.rd
   refine Zs<|Zr<|X.opP X.wN rfl rfl (X.lss rfl rfl) (fun h27 => ?_) (fun h27 => ?_)
   ·obtain ⟨k, hki⟩ : ∃ k, z1.1 - i = k + 1 := ⟨z1.1 - i - 1, by omega⟩
    refine Ze<|Zs<|Zt rfl<|Zk<|Zs<|Zb<|Zs<|Zr<|Zoms rfl rfl<|Zc (X.callE (TakeCounted_c _ (hs6.wide (Nat.zero_le _) Zz) Zz Zz) Tryz.call89 rfl rfl) rfl ?_
    rintro _ w6 ⟨vk, rfl, hMk, hk6⟩
    obtain ⟨Ak, ck, rfl, hck, hsk⟩ := mineKV_sl hMk
    have hk6' := hk6.size
    refine Zom rfl rfl<|Zo (X.extr rfl rfl) rfl<|Zo (X.extr rfl rfl) rfl<|Zo (X.extr rfl rfl) rfl<|Zc (X.allocE Zv92 rfl) rfl ?_
    rintro _ w7 ⟨rfl, hB7, hk7, hz7⟩
    refine Zc (X.storeNE Zs92 hB7 rfl rfl rfl rfl (fun u hu => by simp at hu; rcases hu with rfl | rfl <;> rfl)) rfl ?_
    rintro _ w8 ⟨hB8, hx8, hz8⟩
    refine Zoai rfl rfl<|Zoai rfl rfl<|Ze<|Zs<|Zr<|Zomi rfl rfl<|X.opPR (must_c _ _) X.wN rfl Zc80 rfl (fun b9 hb9 => ?_) (fun hb9 => ?_)
    ·rintro _ w9 ⟨rfl, hk9⟩
     have hk9' := hk9.size
     obtain ⟨y, hy⟩ := okE_some hb9
     obtain ⟨hxy, hyT, hyV, hyI⟩ := pCnt_just hy
     have hyl : y.2.length ≤ x6.length := by rw [hxy, List.length_append]; omega
     have hyp : y.2.length < x6.length := by rw [hxy, List.length_append]; simp only [cntB, tupB, List.length_append, List.length_cons]; omega
     have hcn : cnt (pCnt x6) n6 = ((n6 - y.2.length : Nat) : Int) := by rw [hy]; show (n6 : Int) - (y.2.length : Int) = _; omega
     have htd : told (pCnt x6) ([], 0) = y.1 := by rw [hy]; rfl
     have hskt := sl_cast hsk (congrArg Prod.fst htd)
     refine Ze<|X.regionD (fun k => (w5.heap.size ≤ k ∧ k < w1.heap.size) ∨ k = w.heap.size) 8 Zl Zl (fun w10 hk10 hz10 => ?_)
     refine ZD 1 rfl Zl (fun w' hk' => X.loadNB Zi92 Zs92 ((hB8.keep (hk9.trans hk10)).ext hk' zq1) rfl rfl rfl) ?_
     refine ZDc 4 rfl Zl (Zdms rfl)<|ZDc 5 rfl Zl (Zdmi rfl) ?_
     have hsd := ((hs6.keep ((((hk6.trans hk7).step hx8 zq25).trans hk9).trans hk10))).drop (cnt (pCnt x6) n6).toNat c6 Zz Zz
     rw [show x6.drop (cnt (pCnt x6) n6).toNat = y.2 by rw [hcn, Int.toNat_natCast, h6l]; exact suf_drop hxy] at hsd
     refine ZDc 6 rfl Zl (X.cutL (m := cnt (pCnt x6) n6) Zu81 Zs5 rfl rfl ⟨by omega, by omega⟩) ?_
     refine X.dTwo (i := 0) (j := 2) Zl ?_ ?_
     ·refine X.d1Step (i := 0) rfl (X.dwN rfl) (X.load1B Zi29 (hB4.keep ((((hk6.trans hk7).step hx8 zq25).trans hk9).trans hk10)) rfl rfl) (fun _ => Ext.refl _ _) ?_
      refine X.dE (i := 2) Zl rfl (X.dwN rfl) (X.litKF KCt_flat (K := KCt) (xs := [Operand.tmp 37]) (vs := [evC ((Ak, (told (pCnt x6) ([], 0)).1.length, ck), (told (pCnt x6) ([], 0)).2)]) (ys := [((Ak, (told (pCnt x6) ([], 0)).1.length, ck), (told (pCnt x6) ([], 0)).2)]) Zu29 Zs92 Zv92 rfl rfl rfl rfl rfl (repsC _)) (by rintro _ w11 ⟨rfl, hs11, hB11, hk11, hz11⟩ _; exact hk11.mono (fun _ _ h => h.elim)) ?_
      rintro _ w11 ⟨rfl, hs11, hB11, hk11, hz11⟩
      refine X.dE (i := 3) Zl rfl (X.dwN rfl) (NRow.app (y := ((Ak, (told (pCnt x6) ([], 0)).1.length, ck), (told (pCnt x6) ([], 0)).2)) (q := y.1) (hNR.keep (((((hk6.trans hk7).step hx8 zq25).trans hk9).trans hk10).trans hk11)) hs11 ⟨congrArg Prod.snd htd, hyI, hck, _, _, fun _ h1 h2 => ⟨h1, h2⟩, (hskt.keep ((((hk7.step hx8 zq25).trans hk9).trans hk10).trans hk11))⟩ Zz Zz Zz Zu29 ECt rfl rfl Zz) (by rintro _ w12 ⟨Aq, cq, S', G', rfl, hNn, hx12⟩ _; exact hx12.mono (fun k _ h => by (try simp only [] at *); omega)) ?_
      rintro _ w12 ⟨Aq, cq, S', G', rfl, hNn, hx12⟩
      have hx12' := hx12.size
      refine X.dE (i := 7) Zl rfl (X.dwN rfl) (X.storeE Zs29 ((hB4.keep (((((hk6.trans hk7).step hx8 zq25).trans hk9).trans hk10).trans hk11)).ext hx12 zq1) rfl rfl rfl rfl) (by rintro _ w13 ⟨hB13, hx13, hz13⟩ _; exact hx13.mono (fun k _ h => by (try simp only [] at *); omega)) ?_
      rintro _ w13 ⟨hB13, hx13, hz13⟩
      refine X.dStep (i := 8) Zl rfl (X.dwN rfl) (X.assign rfl) (fun h => absurd h (by decide))<|Zdend Zl<|Zi<|Zr<|Zo (X.add (c := ((i + 1 : Nat) : Int)) rfl rfl (by rw [X.w_u64 Zz]; omega)) rfl ?_
      refine Zomu rfl rfl<|Ze ?_
      refine hback (i + 1, .slice Aq (l ++ [y.1]).length cq, _, _, _, y.2) _ _ ⟨rfl, rfl, rfl, rfl, rfl, rfl, trivial⟩ ⟨by (try dsimp only); omega, ((((((((hk.trans hk6).trans hk7).step hx8 zq25).trans hk9).trans hk10).trans hk11).step hx12 zq25).step hx13 zq25), hB13, (((hB5.keep (((((hk6.trans hk7).step hx8 zq25).trans hk9).trans hk10).trans hk11)).ext hx12 zq1).ext hx13 zq1), ?_, ?_, by (try dsimp only); omega, _, _, (((hsd.keep hk11).ext hx12 zq1).ext hx13 zq1), hlo9, hhi9, L ++ [_], l ++ [y.1], S', G', ((hNn.ext hx13 zq1)).all, ?_, ?_⟩ ?_
      ·(try dsimp only); rw [hcn, Int.toNat_natCast]; omega
      ·(try dsimp only); rw [hcn, Int.toNat_natCast]; omega
      ·(try dsimp only); rw [List.length_append, List.length_singleton, hcn, Int.toNat_natCast]; omega
      ·(try dsimp only); rw [hE, hki, ents_b hy, emap_snoc, show z1.1 - (i + 1) = k by omega]
      ·(try dsimp only); omega
     ·refine X.d1E (i := 2) rfl (X.dwN rfl) (X.litKF KCt_flat (K := KCt) (xs := [Operand.tmp 37]) (vs := [evC ((Ak, (told (pCnt x6) ([], 0)).1.length, ck), (told (pCnt x6) ([], 0)).2)]) (ys := [((Ak, (told (pCnt x6) ([], 0)).1.length, ck), (told (pCnt x6) ([], 0)).2)]) Zu29 Zs92 Zv92 rfl rfl rfl rfl rfl (repsC _)) (by rintro _ w14 ⟨rfl, hs14, hB14, hk14, hz14⟩ _; exact hk14.mono (fun _ _ h => h.elim)) ?_
      rintro _ w14 ⟨rfl, hs14, hB14, hk14, hz14⟩
      refine X.dStep (i := 0) Zl rfl (X.dwN rfl) (X.load1B Zi29 (hB4.keep (((((hk6.trans hk7).step hx8 zq25).trans hk9).trans hk10).trans hk14)) rfl rfl) (fun _ => Ext.refl _ _) ?_
      refine X.dE (i := 3) Zl rfl (X.dwN rfl) (NRow.app (y := ((Ak, (told (pCnt x6) ([], 0)).1.length, ck), (told (pCnt x6) ([], 0)).2)) (q := y.1) (hNR.keep (((((hk6.trans hk7).step hx8 zq25).trans hk9).trans hk10).trans hk14)) hs14 ⟨congrArg Prod.snd htd, hyI, hck, _, _, fun _ h1 h2 => ⟨h1, h2⟩, (hskt.keep ((((hk7.step hx8 zq25).trans hk9).trans hk10).trans hk14))⟩ Zz Zz Zz Zu29 ECt rfl rfl Zz) (by rintro _ w15 ⟨Aq, cq, S', G', rfl, hNn, hx15⟩ _; exact hx15.mono (fun k _ h => by (try simp only [] at *); omega)) ?_
      rintro _ w15 ⟨Aq, cq, S', G', rfl, hNn, hx15⟩
      have hx15' := hx15.size
      refine X.dE (i := 7) Zl rfl (X.dwN rfl) (X.storeE Zs29 ((hB4.keep (((((hk6.trans hk7).step hx8 zq25).trans hk9).trans hk10).trans hk14)).ext hx15 zq1) rfl rfl rfl rfl) (by rintro _ w16 ⟨hB16, hx16, hz16⟩ _; exact hx16.mono (fun k _ h => by (try simp only [] at *); omega)) ?_
      rintro _ w16 ⟨hB16, hx16, hz16⟩
      refine X.dStep (i := 8) Zl rfl (X.dwN rfl) (X.assign rfl) (fun h => absurd h (by decide))<|Zdend Zl<|Zi<|Zr<|Zo (X.add (c := ((i + 1 : Nat) : Int)) rfl rfl (by rw [X.w_u64 Zz]; omega)) rfl ?_
      refine Zomu rfl rfl<|Ze ?_
      refine hback (i + 1, .slice Aq (l ++ [y.1]).length cq, _, _, _, y.2) _ _ ⟨rfl, rfl, rfl, rfl, rfl, rfl, trivial⟩ ⟨by (try dsimp only); omega, ((((((((hk.trans hk6).trans hk7).step hx8 zq25).trans hk9).trans hk10).trans hk14).step hx15 zq25).step hx16 zq25), hB16, (((hB5.keep (((((hk6.trans hk7).step hx8 zq25).trans hk9).trans hk10).trans hk14)).ext hx15 zq1).ext hx16 zq1), ?_, ?_, by (try dsimp only); omega, _, _, (((hsd.keep hk14).ext hx15 zq1).ext hx16 zq1), hlo9, hhi9, L ++ [_], l ++ [y.1], S', G', ((hNn.ext hx16 zq1)).all, ?_, ?_⟩ ?_
      ·(try dsimp only); rw [hcn, Int.toNat_natCast]; omega
      ·(try dsimp only); rw [hcn, Int.toNat_natCast]; omega
      ·(try dsimp only); rw [List.length_append, List.length_singleton, hcn, Int.toNat_natCast]; omega
      ·(try dsimp only); rw [hE, hki, ents_b hy, emap_snoc, show z1.1 - (i + 1) = k by omega]
      ·(try dsimp only); omega
    ·rintro w9 hx9
     have hx9' := hx9.size
     have hN : pgP xs t = none := by rw [hE, hki, ents_a (okE_none hb9)]; rfl
     refine X.unw_defer Zc78 (fun h => by cases h) (rcaught_1 _ _ _ ((hB5.keep ((hk6.trans hk7).step hx8 zq25)).ext hx9 zq1)) ?_
     rintro m wz ⟨rfl, hBz, hxz⟩
     have hxz' := hxz.size
     show X.Unw _ _ _ FrameMode.returning _ _ _ _
     refine X.unw_defer Zc88 (fun h => by cases h) (X.DCall.of_ret (zeroP1_c _ _ _ _ hBz (((hB4.keep ((hk6.trans hk7).step hx8 zq25)).ext hx9 zq1).ext hxz zq35) Zz)) ?_
     rintro m wq ⟨rfl, vq, hq1, hq2, hq4⟩
     show X.Unw _ _ _ FrameMode.returning _ _ _ _
     refine X.unwR2 Zf42 Zr42 (X.ResOk.cell rfl (X.lv1 Zi29 hq2 rfl)) (X.ResOk.cell rfl (X.lv1 Zi25 hq1 rfl)) ?_
     rw [hN]
     exact ⟨rfl, ((((((hk.trans hk6).trans hk7).step hx8 zq25).step hx9 zq25)).step hxz zq28).step hq4 zq28⟩
   ·refine Ze<|Zs<|Zf rfl<|Zx rfl<|Zs<|Zs<|Zr<|Zoms rfl rfl<|Zo (X.lenSl Zu81 rfl) rfl<|X.opP X.wN rfl rfl (X.gtr rfl rfl) (fun h46 => ?_) (fun h46 => ?_)
    ·
     refine Zomt rfl rfl<|Zp rfl rfl rfl<|Zp rfl rfl rfl<|Zp rfl rfl rfl<|Zo (ZdTt rfl rfl) rfl<|Zomt rfl rfl<|Zp rfl rfl rfl<|Zp rfl rfl rfl<|Zp rfl rfl rfl<|Zo (ZdTt rfl rfl) rfl<|Zomt rfl rfl<|Zp rfl rfl rfl<|Zp rfl rfl rfl<|Zp rfl rfl rfl<|Zp rfl rfl rfl<|Zp rfl rfl rfl<|Zp rfl rfl rfl<|Zp rfl rfl rfl<|Zo (ZdTt rfl rfl) rfl<|Ze<|Zt rfl<|Zr<|Zo (X.buildB (vs := []) (cs := #[]) rfl Zl) rfl<|Zo (X.mkIface Zu171 rfl rfl) rfl<|X.opPanic X.wN rfl ?_
     have hN : pgP xs t = none := by
       rw [hE, show z1.1 - i = 0 by omega, ents, if_neg (fun h => by rw [h] at h6l; simp at h6l; omega)]; rfl
     refine X.unw_defer Zc78 (fun h => by cases h) (rcaught_1 _ _ _ hB5) ?_
     rintro m wz ⟨rfl, hBz, hxz⟩
     have hxz' := hxz.size
     show X.Unw _ _ _ FrameMode.returning _ _ _ _
     refine X.unw_defer Zc88 (fun h => by cases h) (X.DCall.of_ret (zeroP1_c _ _ _ _ hBz (hB4.ext hxz zq35) Zz)) ?_
     rintro m wq ⟨rfl, vq, hq1, hq2, hq4⟩
     show X.Unw _ _ _ FrameMode.returning _ _ _ _
     refine X.unwR2 Zf42 Zr42 (X.ResOk.cell rfl (X.lv1 Zi29 hq2 rfl)) (X.ResOk.cell rfl (X.lv1 Zi25 hq1 rfl)) ?_
     rw [hN]
     exact ⟨rfl, ((hk).step hxz zq28).step hq4 zq28⟩
    ·have hx60 : x6 = [] := List.eq_nil_of_length_eq_zero Zz
     have hfin : (ents (z1.1 - i) x6).map (l ++ ·) = some l := by rw [show z1.1 - i = 0 by omega, ents, if_pos hx60]; simp
     refine Zomf rfl rfl<|Zg (X.load1B Zi29 hB4 rfl rfl) rfl rfl rfl rfl<|Zg (X.lenSl Zu29 rfl) rfl rfl rfl rfl<|X.opP (X.wG rfl rfl rfl) rfl rfl (X.eqI rfl rfl) (fun h50 => ?_) (fun h50 => ?_)
     ·
      refine Zo (ZdFt rfl rfl) rfl<|Zomt rfl rfl<|Zp rfl rfl rfl<|Zp rfl rfl rfl<|Zp rfl rfl rfl<|Zo (ZdTt rfl rfl) rfl<|Zomt rfl rfl<|Zp rfl rfl rfl<|Zp rfl rfl rfl<|Zp rfl rfl rfl<|Zp rfl rfl rfl<|Zp rfl rfl rfl<|Zp rfl rfl rfl<|Zp rfl rfl rfl<|Zo (ZdTt rfl rfl) rfl<|Ze<|Zt rfl<|Zr<|Zo (X.buildB (vs := []) (cs := #[]) rfl Zl) rfl<|Zo (X.mkIface Zu171 rfl rfl) rfl<|X.opPanic X.wN rfl ?_
      have hN : pgP xs t = none := by
        rw [hE, hfin]; exact pgF_F (fun h => h.1 (List.eq_nil_of_length_eq_zero Zz))
      refine X.unw_defer Zc78 (fun h => by cases h) (rcaught_1 _ _ _ hB5) ?_
      rintro m wz ⟨rfl, hBz, hxz⟩
      have hxz' := hxz.size
      show X.Unw _ _ _ FrameMode.returning _ _ _ _
      refine X.unw_defer Zc88 (fun h => by cases h) (X.DCall.of_ret (zeroP1_c _ _ _ _ hBz (hB4.ext hxz zq35) Zz)) ?_
      rintro m wq ⟨rfl, vq, hq1, hq2, hq4⟩
      show X.Unw _ _ _ FrameMode.returning _ _ _ _
      refine X.unwR2 Zf42 Zr42 (X.ResOk.cell rfl (X.lv1 Zi29 hq2 rfl)) (X.ResOk.cell rfl (X.lv1 Zi25 hq1 rfl)) ?_
      rw [hN]
      exact ⟨rfl, ((hk).step hxz zq28).step hq4 zq28⟩
     ·have hne : l ≠ [] := fun h => by rw [h] at h50; simp at h50
      have hnp := List.length_pos_iff.2 hne
      obtain ⟨Av', cv', ev, hcv', hkc⟩ := nrow_kc hNR
      injection ev with ev1 ev2 ev3
      subst ev1 ev3
      obtain ⟨x0, hx0'⟩ : ∃ x0, L[0]? = some x0 := ⟨_, List.getElem?_eq_getElem (by rw [hNR.d.1]; omega)⟩
      obtain ⟨q0, hq0, _, _, _, loq, hiq, _, hqs⟩ := hNR.d.2 _ _ hx0'
      have hhq := kv_head (x := x0) hq0
      refine Zo (ZdFf rfl rfl) rfl<|Zomf rfl rfl<|Zg (X.load1B Zi29 hB4 rfl rfl) rfl rfl rfl rfl<|X.opE (X.wG rfl rfl rfl) rfl (X.callE (rCheck_c _ hkc Zz) Tryz.call61 rfl rfl) ?_
      rintro _ w17 ⟨rfl, hk17⟩
      have hk17' := hk17.size
      refine X.opP (X.wG rfl rfl rfl) rfl rfl (X.neI rfl rfl) (fun h55 => ?_) (fun h55 => ?_)
      ·
       refine Zo (ZdFt rfl rfl) rfl<|Zomt rfl rfl<|Zp rfl rfl rfl<|Zp rfl rfl rfl<|Zp rfl rfl rfl<|Zp rfl rfl rfl<|Zp rfl rfl rfl<|Zp rfl rfl rfl<|Zp rfl rfl rfl<|Zo (ZdTt rfl rfl) rfl<|Ze<|Zt rfl<|Zr<|Zo (X.buildB (vs := []) (cs := #[]) rfl Zl) rfl<|Zo (X.mkIface Zu171 rfl rfl) rfl<|X.opPanic X.wN rfl ?_
       have hN : pgP xs t = none := by
         rw [hE, hfin]; exact pgF_F (fun h => by rw [h.2.1] at h55; exact absurd rfl h55)
       refine X.unw_defer Zc78 (fun h => by cases h) (rcaught_1 _ _ _ (hB5.keep hk17)) ?_
       rintro m wz ⟨rfl, hBz, hxz⟩
       have hxz' := hxz.size
       show X.Unw _ _ _ FrameMode.returning _ _ _ _
       refine X.unw_defer Zc88 (fun h => by cases h) (X.DCall.of_ret (zeroP1_c _ _ _ _ hBz ((hB4.keep hk17).ext hxz zq35) Zz)) ?_
       rintro m wq ⟨rfl, vq, hq1, hq2, hq4⟩
       show X.Unw _ _ _ FrameMode.returning _ _ _ _
       refine X.unwR2 Zf42 Zr42 (X.ResOk.cell rfl (X.lv1 Zi29 hq2 rfl)) (X.ResOk.cell rfl (X.lv1 Zi25 hq1 rfl)) ?_
       rw [hN]
       exact ⟨rfl, (((hk.trans hk17)).step hxz zq28).step hq4 zq28⟩
      ·have hRt : isR l = true := by
         cases hq : isR l with
         | true => rfl
         | false => rw [hq] at h55; exact absurd (by decide : ¬ (70 : Int) = 0) h55
       refine Zo (ZdFf rfl rfl) rfl<|Zomf rfl rfl<|Zg (X.load1B Zi29 (hB4.keep hk17) rfl rfl) rfl rfl rfl rfl<|Zg (X.idxS (hsv.keep hk17) Zu29 Zs92 rfl rfl ⟨by omega, by omega⟩) rfl rfl rfl rfl<|Zg (X.fldA Zu92 rfl rfl Zs90) rfl rfl rfl rfl<|Zg (X.loadSf (o := 0) Zi90 (hsv.keep hk17) (j := 0) hx0' rfl (fun _ h => by rw [h.1]; rfl)) rfl rfl rfl rfl ?_
       refine Zg (X.move rfl) rfl rfl rfl rfl<|X.opE (X.wG rfl rfl rfl) rfl (X.callE (tupleCompare_c _ (hqs.keep hk17) (ht.keep (hk.trans hk17))) Zc84 rfl rfl) ?_
       rintro _ w18 ⟨rfl, hk18⟩
       have hk18' := hk18.size
       refine X.opP (X.wG rfl rfl rfl) rfl rfl (X.neI rfl rfl) (fun h64 => ?_) (fun h64 => ?_)
       ·
        refine Zo (ZdFt rfl rfl) rfl<|Ze<|Zt rfl<|Zr<|Zo (X.buildB (vs := []) (cs := #[]) rfl Zl) rfl<|Zo (X.mkIface Zu171 rfl rfl) rfl<|X.opPanic X.wN rfl ?_
        have hN : pgP xs t = none := by
          rw [hE, hfin]; exact pgF_F (fun h => h64 (by rw [← hhq]; exact h.2.2))
        refine X.unw_defer Zc78 (fun h => by cases h) (rcaught_1 _ _ _ (hB5.keep (hk17.trans hk18))) ?_
        rintro m wz ⟨rfl, hBz, hxz⟩
        have hxz' := hxz.size
        show X.Unw _ _ _ FrameMode.returning _ _ _ _
        refine X.unw_defer Zc88 (fun h => by cases h) (X.DCall.of_ret (zeroP1_c _ _ _ _ hBz ((hB4.keep (hk17.trans hk18)).ext hxz zq35) Zz)) ?_
        rintro m wq ⟨rfl, vq, hq1, hq2, hq4⟩
        show X.Unw _ _ _ FrameMode.returning _ _ _ _
        refine X.unwR2 Zf42 Zr42 (X.ResOk.cell rfl (X.lv1 Zi29 hq2 rfl)) (X.ResOk.cell rfl (X.lv1 Zi25 hq1 rfl)) ?_
        rw [hN]
        exact ⟨rfl, ((((hk.trans hk17).trans hk18)).step hxz zq28).step hq4 zq28⟩
       ·have hcm : cmpT (headT l) t = 0 := by rw [hhq]; exact Classical.byContradiction h64
        refine Zo (ZdFf rfl rfl) rfl<|Ze<|Zf rfl<|Zk<|Zs<|Zr<|Zo (X.load1B Zi29 (hB4.keep (hk17.trans hk18)) rfl rfl) rfl<|Zc (X.storeE Zs29 (hB4.keep (hk17.trans hk18)) rfl rfl rfl rfl) rfl ?_
        rintro _ w19 ⟨hB19, hx19, hz19⟩
        refine Zc (X.storeE Zs25 ((hB5.keep (hk17.trans hk18)).ext hx19 zq1) rfl rfl rfl rfl) rfl ?_
        rintro _ w20 ⟨hB20, hx20, hz20⟩
        refine Ze<|X.ret_unw<|X.unw_defer Zc78 (fun h => by cases h) (rcaught_0 _ _) ?_
        rintro m wz ⟨rfl, rfl⟩
        show X.Unw _ _ _ FrameMode.returning _ _ _ _
        refine X.unw_defer Zc88 (fun h => by cases h) (X.DCall.of_ret (zeroP0_c _ _ _ hB20)) ?_
        rintro m wz ⟨rfl, vz, rfl⟩
        show X.Unw _ _ _ FrameMode.returning _ _ _ _
        refine X.unwR2 Zf42 Zr42 (X.ResOk.cell rfl (X.lv1 Zi29 (hB19.ext hx20 zq1) rfl)) (X.ResOk.cell rfl (X.lv1 Zi25 hB20 rfl)) ?_
        rw [hE, hfin, pgF_T hne hRt hcm]
        have hNf := (((hNR.keep (hk17.trans hk18)).ext hx19 zq1).ext hx20 zq1)
        exact ⟨⟨_, L, _, S, G, rfl, hNf.low Zz⟩, ((((hk.trans hk17).trans hk18).step hx19 zq25).step hx20 zq25)⟩
  ·rintro w5 hx5
   have hx5' := hx5.size
   have hN : pgP xs t = none := pg_b ho1 hz1
   refine X.unw_defer Zc78 (fun h => by cases h) (rcaught_1 _ _ _ ((hB2.keep (hk3.trans hk4)).ext hx5 zq1)) ?_
   rintro m wz ⟨rfl, hBz, hxz⟩
   have hxz' := hxz.size
   show X.Unw _ _ _ FrameMode.returning _ _ _ _
   refine X.unw_defer Zc88 (fun h => by cases h) (X.DCall.of_ret (zeroP1_c _ _ _ _ hBz (((hB1.keep ((hk2.trans hk3).trans hk4)).ext hx5 zq1).ext hxz zq35) Zz)) ?_
   rintro m wq ⟨rfl, vq, hq1, hq2, hq4⟩
   show X.Unw _ _ _ FrameMode.returning _ _ _ _
   refine X.unwR2 Zf42 Zr42 (X.ResOk.cell rfl (X.lv1 Zi29 hq2 rfl)) (X.ResOk.cell rfl (X.lv1 Zi25 hq1 rfl)) ?_
   rw [hN]
   exact ⟨rfl, ((((((hk1.trans hk2).trans hk3).trans hk4).step hx5 zq25)).step hxz zq28).step hq4 zq28⟩
 ·rintro w4 hx4
  have hx4' := hx4.size
  have hN : pgP xs t = none := pg_a (okE_n hb4)
  refine X.unw_defer Zc78 (fun h => by cases h) (rcaught_1 _ _ _ ((hB2.keep hk3).ext hx4 zq1)) ?_
  rintro m wz ⟨rfl, hBz, hxz⟩
  have hxz' := hxz.size
  show X.Unw _ _ _ FrameMode.returning _ _ _ _
  refine X.unw_defer Zc88 (fun h => by cases h) (X.DCall.of_ret (zeroP1_c _ _ _ _ hBz (((hB1.keep (hk2.trans hk3)).ext hx4 zq1).ext hxz zq35) Zz)) ?_
  rintro m wq ⟨rfl, vq, hq1, hq2, hq4⟩
  show X.Unw _ _ _ FrameMode.returning _ _ _ _
  refine X.unwR2 Zf42 Zr42 (X.ResOk.cell rfl (X.lv1 Zi29 hq2 rfl)) (X.ResOk.cell rfl (X.lv1 Zi25 hq1 rfl)) ?_
  rw [hN]
  exact ⟨rfl, (((((hk1.trans hk2).trans hk3).step hx4 zq25)).step hxz zq28).step hq4 zq28⟩
def LfS (lo hi : Nat) (w : World) (A : Option Addr) (n : Nat) (l : List LEAF) : Prop := ∃ L, Sl KLf lo hi w A n L ∧ NdLf.All (fun k => lo ≤ k ∧ k < hi) w L l
abbrev rnL (b : Nat) (nm : ByteArray) (A : Option Addr) (n c : Nat) (k : Nat) : List Value := [ptrV b, .string nm, .slice A n c, .int .i64 (k : Int)]
def RunO (lo hi : Nat) (w : World) (r b : Nat) (nm : ByteArray) (l : List LEAF) (k : Nat) : Prop := ∃ A c, Blk w r (rnL b nm A l.length c k) 100 ∧ l.length ≤ c ∧ LfS lo hi w A l.length l
section
variable {lo hi r b k : Nat} {w w' : World} {nm : ByteArray} {l : List LEAF} {A : Option Addr} {n : Nat}
theorem LfS.ext (h : LfS lo hi w A n l) {T : Nat → Prop} (x : Ext T w w') (hT : ∀ q, lo ≤ q → q < hi → ¬ T q) : LfS lo hi w' A n l := let ⟨L, h1, h2⟩ := h; ⟨L, h1.ext x hT, Nd.All.ext h2 x fun q hq => hT q hq.1 hq.2⟩
theorem LfS.keep (h : LfS lo hi w A n l) (x : Keep w w') : LfS lo hi w' A n l := h.ext x fun _ _ _ h => h
theorem RunO.ext (h : RunO lo hi w r b nm l k) {T : Nat → Prop} (x : Ext T w w') (hr : ¬ T r) (hT : ∀ q, lo ≤ q → q < hi → ¬ T q) : RunO lo hi w' r b nm l k := let ⟨A, c, h1, h2, h3⟩ := h; ⟨A, c, h1.ext x hr, h2, h3.ext x hT⟩
theorem RunO.keep (h : RunO lo hi w r b nm l k) (x : Keep w w') : RunO lo hi w' r b nm l k := h.ext x id fun _ _ _ h => h
theorem nrow_lf {tb base m : Nat} {S G : Nat → Prop} {v : Value} {L : List LH} (h : NRow NdLf tb base m S G w v L l) : ∃ A c, v = .slice A l.length c ∧ l.length ≤ c ∧ LfS base w.heap.size w A l.length l := by
  obtain ⟨A, c, e, hc, hs⟩ := h.rd
  exact ⟨A, c, e, hc, L, hs.wide (Nat.le_refl _) h.l1, Nd.All.mono h.d h.g⟩
theorem LfS.get (h : LfS lo hi w A n l) {i : Nat} {q : LEAF} (hq : l[i]? = some q) : ∃ L x, Sl KLf lo hi w A n L ∧ L[i]? = some x ∧ x.1 = q.1 ∧ x.2.1 = q.2.1 ∧ x.2.2.2.1 ≤ x.2.2.2.2 ∧ Sl KV lo hi w x.2.2.1 x.2.2.2.1 q.2.2 := by
  obtain ⟨L, h1, h2⟩ := h
  obtain ⟨x, hx⟩ : ∃ x, L[i]? = some x := ⟨_, List.getElem?_eq_getElem (by rw [h2.1]; exact (List.getElem?_eq_some_iff.1 hq).1)⟩
  obtain ⟨q', g1, g2, g3, g4, lo', hi', g5, g6⟩ := h2.2 i x hx
  rw [hq] at g1; cases g1
  exact ⟨L, x, h1, hx, g2, g3, g4, kv_tight g6 fun k a b => g5 k a b⟩
end
theorem made_c {lo hi r b k : Nat} {nm : ByteArray} {l : List LEAF} (w : World) (h : RunO lo hi w r b nm l k) : Ret Tryz.prog 87 #[ptrV r] w fun v w' => v = .bool true ∧ Keep w w' := by
 obtain ⟨A, c, hB, hlc, hL⟩ := h
 refine X.enter Tryz.func87 rfl Tryz.ntmps87 rfl<|Zs<|Zr<|Zoa rfl rfl<|Ze<|Zs<|Zr<|Zom rfl rfl<|Zo (X.nePtrN (A := some _) Tryz.underlying31 rfl rfl) rfl<|Zomt rfl rfl<|Zg (X.move rfl) rfl rfl rfl rfl<|Zg (X.nilCk rfl) rfl rfl rfl rfl<|Zg (X.fldB (j := 0) Zu100 rfl rfl Tryz.sizeOf24 rfl) rfl rfl rfl rfl<|Zg (X.load1B Tryz.isAgg24 hB rfl rfl) rfl rfl rfl rfl<|Zg (X.nePtrN (A := some _) Tryz.underlying24 rfl rfl) rfl rfl rfl rfl<|Zo (ZdTt rfl rfl) rfl<|Zoat rfl rfl<|Ze<|X.ret1 (v := (.bool _)) Tryz.func87 Tryz.results87 rfl ?_
 exact ⟨rfl, (Keep.refl _)⟩
def NobR (w : World) (p : Option Addr) : Prop := p = none ∨ ∃ r, p = some ⟨r, 0, none⟩ ∧ Blk w r [.pointer none, .string ⟨#[]⟩, .slice none 0 0, .int .i64 0] 100
theorem NobR.keep {w w' : World} {p : Option Addr} (h : NobR w p) (x : Keep w w') : NobR w' p := h.imp id fun ⟨r, e, h⟩ => ⟨r, e, h.keep x⟩
theorem at_ok {lo hi r b k : Nat} {nm : ByteArray} {l : List LEAF} (w : World) (h : RunO lo hi w r b nm l k) (i : Nat) {q : LEAF} (hq : l[i]? = some q) : Ret Tryz.prog 41 #[ptrV r, .int .i64 (i : Int)] w fun v w' => (∃ A' n' c', v = .tuple #[.agg #[.int .i64 (q.1 : Int), .int .i64 (q.2.1 : Int), .slice A' n' c'], .int .i64 0] ∧ n' ≤ c' ∧ Sl KV lo hi w A' n' q.2.2) ∧ Keep w w' := by
 obtain ⟨A, c, hB, hlc, hL⟩ := id h
 have hrl := hB.lt
 obtain ⟨Lr, hsr, hLr⟩ := id hL
 have hsl := hsr.len
 have hsb := hsr.bound
 have hil := (List.getElem?_eq_some_iff.1 hq).1
 obtain ⟨L2, x, hsL2, hx, x1, x2, x3, hxs⟩ := hL.get hq
 refine X.enter Zf41 rfl Tryz.ntmps41 rfl<|Zs<|Zr<|Zc (X.allocE Zv109 rfl) rfl ?_
 rintro _ w1 ⟨rfl, hB1, hk1, hz1⟩
 refine Zoa rfl rfl<|Ze<|Zs<|Zb<|Zs<|Zr<|Zom rfl rfl<|Zc (X.callE (made_c _ (h.keep hk1)) Tryz.call87 rfl rfl) rfl ?_
 rintro _ w2 ⟨rfl, hk2⟩
 have hk2' := hk2.size
 refine Zo (X.not_ rfl) rfl<|Zoaf rfl rfl<|Ze<|Zf rfl<|Zs<|Zr<|Zomi rfl rfl<|X.opP X.wN rfl rfl (X.lss rfl rfl) (fun h13 => ?_) (fun h13 => ?_)
 ·omega
 ·refine Zomf rfl rfl<|Zg (Zdmi rfl) rfl rfl rfl rfl<|Zg (X.move rfl) rfl rfl rfl rfl<|Zg (X.nilCk rfl) rfl rfl rfl rfl<|Zg (X.fldB (j := 2) Zu100 rfl rfl Zs96 rfl) rfl rfl rfl rfl<|Zg (X.load1B Zi96 (hB.keep (hk1.trans hk2)) rfl rfl) rfl rfl rfl rfl<|Zg (X.lenSl Zu96 rfl) rfl rfl rfl rfl<|X.opP (X.wG rfl rfl rfl) rfl rfl (X.geq rfl rfl) (fun h21 => ?_) (fun h21 => ?_)
  ·omega
  ·refine Zo (ZdFf rfl rfl) rfl<|Zoaf rfl rfl<|Ze<|Zf rfl<|Zk<|Zi<|Zs<|Zr<|Zom rfl rfl<|Zo (X.nilCk rfl) rfl<|Zo (X.fldB (j := 2) Zu100 rfl rfl Zs96 rfl) rfl<|Zo (X.load1B Zi96 (hB.keep (hk1.trans hk2)) rfl rfl) rfl<|Zomi rfl rfl<|Zo (X.idxS (hsL2.keep (hk1.trans hk2)) Zu96 Zs109 rfl rfl ⟨by omega, by omega⟩) rfl<|Zo (X.loadSN Zi109 Zs109 (hsL2.keep (hk1.trans hk2)) hx rfl (fun _ h => h.1) rfl) rfl<|Zc (X.storeNE Zs109 (hB1.keep hk2) rfl rfl rfl rfl (fun u hu => by simp at hu; rcases hu with rfl | rfl | rfl <;> rfl)) rfl ?_
   rintro _ w3 ⟨hB3, hx3, hz3⟩
   refine Zoa rfl rfl<|Ze ?_
   refine X.ret_unw (X.unwR2 Zf41 Zr41 (X.ResOk.cell rfl (X.lvN Zi109 Zs109 hB3 rfl)) (show X.ResOk _ _ _ (.tmp 5) (.int .i64 _) from rfl) ?_)
   exact ⟨⟨x.2.2.1, x.2.2.2.1, x.2.2.2.2, by rw [← x1, ← x2], x3, hxs⟩, ((hk1.trans hk2).step hx3 zq34)⟩
theorem at_bad {lo hi r b k : Nat} {nm : ByteArray} {l : List LEAF} (w : World) (h : RunO lo hi w r b nm l k) (i : Int) (hi' : i < 0 ∨ (l.length : Int) ≤ i) : Ret Tryz.prog 41 #[ptrV r, .int .i64 i] w fun v w' => v = .tuple #[.agg #[.int .i64 0, .int .i64 0, .slice none 0 0], .int .i64 5] ∧ Keep w w' := by
 obtain ⟨A, c, hB, hlc, hL⟩ := id h
 have hrl := hB.lt
 obtain ⟨Lr, hsr, hLr⟩ := id hL
 have hsl := hsr.len
 have hsb := hsr.bound
 refine X.enter Zf41 rfl Tryz.ntmps41 rfl<|Zs<|Zr<|Zc (X.allocE Zv109 rfl) rfl ?_
 rintro _ w1 ⟨rfl, hB1, hk1, hz1⟩
 refine Zoa rfl rfl<|Ze<|Zs<|Zb<|Zs<|Zr<|Zom rfl rfl<|Zc (X.callE (made_c _ (h.keep hk1)) Tryz.call87 rfl rfl) rfl ?_
 rintro _ w2 ⟨rfl, hk2⟩
 have hk2' := hk2.size
 refine Zo (X.not_ rfl) rfl<|Zoaf rfl rfl<|Ze<|Zf rfl<|Zs<|Zr<|Zomi rfl rfl<|X.opP X.wN rfl rfl (X.lss rfl rfl) (fun h13 => ?_) (fun h13 => ?_)
 ·refine Zomt rfl rfl<|Zp rfl rfl rfl<|Zp rfl rfl rfl<|Zp rfl rfl rfl<|Zp rfl rfl rfl<|Zp rfl rfl rfl<|Zp rfl rfl rfl<|Zp rfl rfl rfl<|Zo (ZdTt rfl rfl) rfl<|Zoat rfl rfl<|Ze<|Zt rfl<|Zs<|Zr<|Zo (X.buildB (vs := []) (cs := #[.int .i64 0, .int .i64 0, .slice none 0 0]) rfl Zl) rfl<|Zc (X.storeNE Zs109 (hB1.keep hk2) rfl rfl rfl rfl (fun u hu => by simp at hu; rcases hu with rfl | rfl | rfl <;> rfl)) rfl ?_
  rintro _ w3 ⟨hB3, hx3, hz3⟩
  refine Zoa rfl rfl<|Ze ?_
  refine X.ret_unw (X.unwR2 Zf41 Zr41 (X.ResOk.cell rfl (X.lvN Zi109 Zs109 hB3 rfl)) (show X.ResOk _ _ _ (.tmp 5) (.int .i64 _) from rfl) ?_)
  exact ⟨rfl, ((hk1.trans hk2).step hx3 zq34)⟩
 ·refine Zomf rfl rfl<|Zg (Zdmi rfl) rfl rfl rfl rfl<|Zg (X.move rfl) rfl rfl rfl rfl<|Zg (X.nilCk rfl) rfl rfl rfl rfl<|Zg (X.fldB (j := 2) Zu100 rfl rfl Zs96 rfl) rfl rfl rfl rfl<|Zg (X.load1B Zi96 (hB.keep (hk1.trans hk2)) rfl rfl) rfl rfl rfl rfl<|Zg (X.lenSl Zu96 rfl) rfl rfl rfl rfl<|X.opP (X.wG rfl rfl rfl) rfl rfl (X.geq rfl rfl) (fun h21 => ?_) (fun h21 => ?_)
  ·refine Zo (ZdFt rfl rfl) rfl<|Zoat rfl rfl<|Ze<|Zt rfl<|Zs<|Zr<|Zo (X.buildB (vs := []) (cs := #[.int .i64 0, .int .i64 0, .slice none 0 0]) rfl Zl) rfl<|Zc (X.storeNE Zs109 (hB1.keep hk2) rfl rfl rfl rfl (fun u hu => by simp at hu; rcases hu with rfl | rfl | rfl <;> rfl)) rfl ?_
   rintro _ w4 ⟨hB4, hx4, hz4⟩
   refine Zoa rfl rfl<|Ze ?_
   refine X.ret_unw (X.unwR2 Zf41 Zr41 (X.ResOk.cell rfl (X.lvN Zi109 Zs109 hB4 rfl)) (show X.ResOk _ _ _ (.tmp 5) (.int .i64 _) from rfl) ?_)
   exact ⟨rfl, ((hk1.trans hk2).step hx4 zq34)⟩
  ·omega
def DS.runW (nm : ByteArray) (l : List CD) (s : DS) : Int × DS :=
  if isR l = false then (70, s) else if (s.create nm).1 ≠ 0 then s.create nm
  else if ((s.create nm).2.write nm 0 (runB l)).1 ≠ 0 then (s.create nm).2.write nm 0 (runB l)
  else ((s.create nm).2.write nm 0 (runB l)).2.sync nm
theorem DS.Inv.runW {s : DS} (h : s.Inv) (nm : ByteArray) (l : List CD) : (s.runW nm l).2.Inv := by
  rw [DS.runW]; split
  · exact h
  · split
    · exact h.create nm
    · split
      · exact (h.create nm).write nm 0 _
      · exact ((h.create nm).write nm 0 _).sync nm
theorem rWrite_c {col : Nat → Nat} {b : Nat} {s : DS} (nm : ByteArray) {lo hi : Nat} {A : Option Addr} {n c : Nat} {l : List CD} (w : World) (hs : Sl KC lo hi w A n l) (hhi : hi ≤ w.heap.size) (h : DkR col w b s) (hi : s.Inv) (hnm : nm.size ≤ 9223372036854775807) (hsz : s.size ≤ 100000) (hnc : n ≤ c) (hn : n ≤ 100) (hok : Oks l) (hTb : TabOk w) : Ret Tryz.prog 7 #[ptrV b, .string nm, .slice A n c] w fun r w' => r = .int .i64 (s.runW nm l).1 ∧ ∃ col', DkR col' w' b (s.runW nm l).2 ∧ Stp col w col' w' := by
 refine X.enter Zf7 rfl Tryz.ntmps7 rfl<|Zs<|Zr<|Zoa rfl rfl<|Ze<|Zs<|Zr<|Zom rfl rfl<|Zc (X.callE (Bytes_c w hs hhi hnc hn hok hTb) Tryz.call31 rfl rfl) rfl ?_
 rintro _ w1 ⟨vB, rfl, hMB, hk1⟩
 obtain ⟨AB, cB, rfl, hcB, hsB⟩ := hMB.slF KB_flat w.heap.size (fun _ h => h)
 have hz1' := hk1.size
 refine Zom rfl rfl<|Zo (X.extr rfl rfl) rfl<|Zo (X.extr rfl rfl) rfl<|Zoas rfl rfl<|Zoai rfl rfl<|Ze<|Zs<|Zs<|Zr<|Zomi rfl rfl<|X.opP X.wN rfl rfl (X.eqI rfl rfl) (fun h15 => ?_) (fun h15 => ?_)
 ·have hrT : isR l = true := by
    cases hq : isR l with
    | true => rfl
    | false => rw [hq] at h15; exact absurd h15 (by decide)
  have hRl : (if isR l = true then runB l else []) = runB l := if_pos hrT
  have hsB0 := hsB
  rw [hRl] at hsB0
  have hrs := (run_sizes hok hrT (by rw [hs.len]; omega)).2.2.2
  refine Ze<|Zt rfl<|Zr<|Zom rfl rfl<|Zomg rfl rfl<|Zc (X.callE (createR_c (h.keep hk1) hi.ok nm hnm hsz) Tryz.call32 rfl rfl) rfl ?_
  rintro _ w2 ⟨rfl, col1, hD1, hS1⟩
  have hx2 := hS1.2
  have hx2' := hx2.size
  refine Zoai rfl rfl<|Ze<|Zs<|Zs<|Zr<|Zomi rfl rfl<|X.opP X.wN rfl rfl (X.eqI rfl rfl) (fun h20 => ?_) (fun h20 => ?_)
  ·have hsB' := ((sl_cast hsB hRl).ext hx2 (by intro q g1 g2 g3; exact g3 (Classical.byContradiction fun e => by have := h.lt q e; omega)))
   refine Ze<|Zt rfl<|Zr<|Zom rfl rfl<|Zomg rfl rfl<|Zoms rfl rfl<|Zc (X.callE (writeR_c hD1 (hi.create nm).ok nm 0 (by decide) (show Sl KB w.heap.size _ _ AB _ (runB l) from hsB') (fun q g1 g2 => ⟨(hS1.1 q g2).trans (Classical.byContradiction fun e => by have := h.lt q e; omega), by have := hS1.2.size; omega⟩) (by rw [hRl] at *; omega)) Tryz.call33 rfl rfl) rfl ?_
   rintro _ w3 ⟨rfl, col2, hD2, hS2⟩
   have hx3 := hS2.2
   have hx3' := hx3.size
   refine Zoai rfl rfl<|Ze<|Zs<|Zs<|Zr<|Zomi rfl rfl<|X.opP X.wN rfl rfl (X.eqI rfl rfl) (fun h26 => ?_) (fun h26 => ?_)
   ·
    refine Ze<|Zt rfl<|Zr<|Zom rfl rfl<|Zomg rfl rfl<|Zc (X.callE (syncR_c hD2 ((hi.create nm).write nm 0 _).ok nm hnm) Tryz.call34 rfl rfl) rfl ?_
    rintro _ w4 ⟨rfl, col3, hD3, hS3⟩
    have hx4 := hS3.2
    have hx4' := hx4.size
    refine Zoai rfl rfl<|Ze<|Zs<|Zr<|Zomi rfl rfl<|Zoai rfl rfl<|Ze<|X.ret1 (v := (.int .i64 _)) Zf7 Zr7 rfl ?_
    have e : s.runW nm l = ((s.create nm).2.write nm 0 (runB l)).2.sync nm := by rw [DS.runW, if_neg (by rw [hrT]; decide), if_neg (fun e => e h20), if_neg (fun e => e h26)]
    rw [e]
    exact ⟨rfl, col3, hD3, Keep.dk hk1 (hS1.trans (hS2.trans hS3))⟩
   ·have hdead := h26
    refine Ze<|Zf rfl<|Zk<|Zs<|Zr<|Zomi rfl rfl<|Zoai rfl rfl<|Ze<|X.ret1 (v := (.int .i64 _)) Zf7 Zr7 rfl ?_
    have e : s.runW nm l = (s.create nm).2.write nm 0 (runB l) := by rw [DS.runW, if_neg (by rw [hrT]; decide), if_neg (fun e => e h20), if_pos hdead]
    rw [e]
    exact ⟨rfl, col2, hD2, Keep.dk hk1 (hS1.trans hS2)⟩
  ·have hdead := h20
   refine Ze<|Zf rfl<|Zk<|Zs<|Zs<|Zr<|Zomi rfl rfl<|X.opP X.wN rfl rfl (X.eqI rfl rfl) (fun h26 => ?_) (fun h26 => ?_)
   ·exact absurd h26 hdead
   ·
    refine Ze<|Zf rfl<|Zk<|Zs<|Zr<|Zomi rfl rfl<|Zoai rfl rfl<|Ze<|X.ret1 (v := (.int .i64 _)) Zf7 Zr7 rfl ?_
    have e : s.runW nm l = s.create nm := by rw [DS.runW, if_neg (by rw [hrT]; decide), if_pos hdead]
    rw [e]
    exact ⟨rfl, col1, hD1, Keep.dk hk1 hS1⟩
 ·have hdead := h15
  have hrF : isR l = false := by
    cases hq : isR l with
    | false => rfl
    | true => rw [hq] at h15; exact absurd rfl h15
  refine Ze<|Zf rfl<|Zk<|Zs<|Zs<|Zr<|Zomi rfl rfl<|X.opP X.wN rfl rfl (X.eqI rfl rfl) (fun h20 => ?_) (fun h20 => ?_)
  ·exact absurd h20 hdead
  ·
   refine Ze<|Zf rfl<|Zk<|Zs<|Zs<|Zr<|Zomi rfl rfl<|X.opP X.wN rfl rfl (X.eqI rfl rfl) (fun h26 => ?_) (fun h26 => ?_)
   ·exact absurd h26 hdead
   ·
    refine Ze<|Zf rfl<|Zk<|Zs<|Zr<|Zomi rfl rfl<|Zoai rfl rfl<|Ze<|X.ret1 (v := (.int .i64 _)) Zf7 Zr7 rfl ?_
    have e : s.runW nm l = (70, s) := by rw [DS.runW, if_pos hrF]
    rw [e]
    exact ⟨by rw [hrF]; rfl, col, h.keep hk1, Stp.keep hk1⟩
theorem read_whole {s : DS} {nm : ByteArray} (h : (s.sizeOf nm).2 = 0) : (s.read nm 0 (s.sizeOf nm).1).2 = 0 ∧ ((s.read nm 0 (s.sizeOf nm).1).1.length : Int) = (s.sizeOf nm).1 ∧ 0 ≤ (s.sizeOf nm).1 := by
  rw [DS.sizeOf] at h ⊢
  cases ha : asc nm s.dir with
  | none => rw [ha] at h; exact absurd h (show ¬ (52 : Int) = 0 by decide)
  | some k =>
    rw [DS.read, ha]
    have e : (fat s.fs k).1.length = flen s.fs k := rfl
    simp only [e]
    rw [if_neg Zz]
    refine ⟨rfl, ?_, by omega⟩
    simp only [Int.toNat_zero, List.drop_zero, Int.toNat_natCast]
    rw [List.take_of_length_le (by rw [e]; omega), e]
def DS.whole (s : DS) (nm : ByteArray) : List UInt8 := (s.read nm 0 (s.sizeOf nm).1).1
theorem rOpen_c {col : Nat → Nat} {w : World} {b : Nat} {s : DS} (hD : DkR col w b s) (hok : s.Ok) (nm : ByteArray) (hsz : (s.sizeOf nm).1 ≤ 1000000) (hTb : TabOk w) : Ret Tryz.prog 9 #[ptrV b, .string nm] w fun rv w' => (if (s.sizeOf nm).2 ≠ 0 then rv = .tuple #[.pointer none, .int .i64 (s.sizeOf nm).2] else match idxP (s.whole nm) with
    | none => rv = .tuple #[.pointer none, .int .i64 71]
    | some (l, k) => ∃ r, rv = .tuple #[ptrV r, .int .i64 0] ∧ w.heap.size ≤ r ∧ r < w'.heap.size ∧ RunO w.heap.size w'.heap.size w' r b nm l k) ∧ Keep w w' := by
 refine X.enter Zf9 rfl Tryz.ntmps9 rfl<|Zs<|Zr<|Zoa rfl rfl<|Zoa rfl rfl<|Ze<|Zs<|Zr<|Zom rfl rfl<|Zomg rfl rfl<|Zc (X.callE (sizeR_c hD hok nm) Tryz.call35 rfl rfl) rfl ?_
 rintro _ w1 ⟨rfl, hk1⟩
 have hk1' := hk1.size
 refine Zom rfl rfl<|Zo (X.extr rfl rfl) rfl<|Zo (X.extr rfl rfl) rfl<|Zoai rfl rfl<|Zoai rfl rfl<|Ze<|Zs<|Zs<|Zr<|Zomi rfl rfl<|X.opP X.wN rfl rfl (X.neI rfl rfl) (fun h18 => ?_) (fun h18 => ?_)
 ·have hsz0 := h18
  refine Ze<|Zt rfl<|Zs<|Zr<|Zomi rfl rfl<|Zoa rfl rfl<|Zoai rfl rfl<|Ze<|X.ret2 (v2 := (.int .i64 _)) Zf9 Zr9 rfl rfl ?_
  refine ⟨?_, hk1⟩
  rw [if_pos hsz0]
  rfl
 ·have hsz0 : (s.sizeOf nm).2 = 0 := Classical.byContradiction h18
  obtain ⟨hr1, hr2, hr3⟩ := read_whole hsz0
  refine Ze<|Zf rfl<|Zk<|Zs<|Zr<|Zom rfl rfl<|Zomg rfl rfl<|Zomi rfl rfl<|Zc (X.callE (readR_c (hD.keep hk1) hok nm 0 (s.sizeOf nm).1 ⟨by decide, by decide, by omega, by omega⟩) Tryz.call36 rfl rfl) rfl ?_
  rintro _ w2 ⟨vr, rfl, hMr, hk2⟩
  obtain ⟨Ar, cr, rfl, hcr, hsr⟩ := hMr.slF KB_flat 0 (fun _ _ => Nat.zero_le _)
  have hk2' := hk2.size
  refine Zom rfl rfl<|Zo (X.extr rfl rfl) rfl<|Zo (X.extr rfl rfl) rfl<|Zoas rfl rfl<|Zoai rfl rfl<|Ze<|Zs<|Zs<|Zr<|Zomi rfl rfl<|X.opP X.wN rfl rfl (X.neI rfl rfl) (fun h28 => ?_) (fun h28 => ?_)
  ·exact absurd hr1 h28
  ·refine Ze<|Zf rfl<|Zk<|Zs<|Zr<|Zoms rfl rfl<|Zc (X.callE (index_c (xs := s.whole nm) _ hsr Zz hcr Zz (hTb.keep (hk1.trans hk2))) Tryz.call37 rfl rfl) rfl ?_
   rintro vi w3 ⟨him, hk3⟩
   have hvi : ∃ a1 a2 a3 a4 a5, vi = .tuple #[.slice a1 a2 a3, .int .i64 a4, .int .i64 a5] := by
     revert him
     cases idxP (s.whole nm) with
     | none => rintro rfl; exact ⟨_, _, _, _, _, rfl⟩
     | some p => rintro ⟨v, L, m, S, G, rfl, hN⟩; obtain ⟨A, c, rfl, _⟩ := nrow_lf hN; exact ⟨_, _, _, _, _, rfl⟩
   obtain ⟨a1, a2, a3, a4, a5, rfl⟩ := hvi
   have hk3' := hk3.size
   refine Zom rfl rfl<|Zo (X.extr rfl rfl) rfl<|Zo (X.extr rfl rfl) rfl<|Zo (X.extr rfl rfl) rfl<|Zoa rfl rfl<|Zoai rfl rfl<|Zoai rfl rfl<|Ze<|Zs<|Zs<|Zr<|Zomi rfl rfl<|X.opP X.wN rfl rfl (X.neI rfl rfl) (fun h37 => ?_) (fun h37 => ?_)
   ·
    refine Ze<|Zt rfl<|Zs<|Zr<|Zomi rfl rfl<|Zoa rfl rfl<|Zoai rfl rfl<|Ze<|X.ret2 (v2 := (.int .i64 _)) Zf9 Zr9 rfl rfl ?_
    refine ⟨?_, ((hk1.trans hk2).trans hk3)⟩
    rw [if_neg (fun e => e hsz0)]
    revert him
    cases hx : idxP (s.whole nm) with
    | none => intro e; injection e with e; cases e; rfl
    | some p => rintro ⟨v, L, m, S, G, e, hN⟩; injection e with e; cases e; exact absurd rfl h37
   ·refine Ze<|Zf rfl<|Zk<|Zs<|Zr<|Zom rfl rfl<|Zomg rfl rfl<|Zom rfl rfl<|Zomi rfl rfl<|Zo (X.buildB (vs := [(0, ptrV b), (1, .string nm), (2, .slice a1 a2 a3), (3, .int .i64 a4)]) (cs := #[ptrV b, .string nm, .slice a1 a2 a3, .int .i64 a4]) rfl Zl) rfl<|Zc (X.boxE rfl rfl) rfl ?_
    rintro _ w4 ⟨rfl, hB4, hk4, hz4⟩
    refine Zoa rfl rfl<|Zoa rfl rfl<|Ze<|X.ret2 (v2 := (.int .i64 _)) Zf9 Zr9 rfl rfl ?_
    refine ⟨?_, (((hk1.trans hk2).trans hk3).trans hk4)⟩
    rw [if_neg (fun e => e hsz0)]
    revert him
    cases hx : idxP (s.whole nm) with
    | none => intro e; injection e with e; cases e; exact absurd (Classical.byContradiction h37) (by decide)
    | some p =>
      obtain ⟨l, k⟩ := p
      rintro ⟨v, L, m, S, G, e, hN⟩
      obtain ⟨A, c, rfl, hc, hL⟩ := nrow_lf hN
      injection e with e; cases e
      have hz := (hB4).lt
      have hzz := (hk4).size
      refine ⟨_, rfl, by omega, hz, a1, a3, hB4, hc, ?_⟩
      obtain ⟨L', h1, h2⟩ := hL.keep hk4
      exact ⟨L', h1.wide Zz Zz, Nd.All.mono h2 fun q hq => ⟨by omega, by omega⟩⟩
theorem entB_T {q : CD} (h : isT q.1 = true) : entB q = cntB q.1 q.2 := by rw [entB, if_pos h]
theorem isR_lt {l : List CD} (h : isR l = true) : ∀ (i j : Nat) (p q : CD), i < j → l[i]? = some p → l[j]? = some q → cmpT p.1 q.1 < 0 := by
  have key : ∀ (d i : Nat) (p q : CD), l[i]? = some p → l[i + d + 1]? = some q → cmpT p.1 q.1 < 0 := by
    intro d
    induction d with
    | zero =>
      intro i p q hp hq
      exact (okAt_t hq (isR_at h _)).2.2 Zz p (by rw [show i + 0 + 1 - 1 = i by omega]; exact hp)
    | succ d ih =>
      intro i p q hp hq
      obtain ⟨u, hu⟩ : ∃ u, l[i + d + 1]? = some u := ⟨_, List.getElem?_eq_getElem (by have := (List.getElem?_eq_some_iff.1 hq).1; omega)⟩
      exact cmpT_trans _ _ _ (ih i p u hp hu) ((okAt_t hq (isR_at h _)).2.2 Zz u (by rw [show i + (d + 1) + 1 - 1 = i + d + 1 by omega]; exact hu))
  intro i j p q hij hp hq
  exact key (j - i - 1) i p q hp (by rw [show i + (j - i - 1) + 1 = j by omega]; exact hq)
theorem isR_of {l : List CD} (h1 : ∀ q, q ∈ l → isT q.1 = true ∧ q.2 ≠ 0) (h2 : ∀ (i : Nat) p q, l[i]? = some p → l[i + 1]? = some q → cmpT p.1 q.1 < 0) : isR l = true := by
  refine isR_T fun j hj => ?_
  obtain ⟨q, hq⟩ : ∃ q, l[j]? = some q := ⟨_, List.getElem?_eq_getElem hj⟩
  obtain ⟨a, b⟩ := h1 q (List.mem_of_getElem? hq)
  rcases Nat.eq_zero_or_pos j with h0 | h0
  · exact okAt_T0 hq a b h0
  · obtain ⟨p, hp⟩ : ∃ p, l[j - 1]? = some p := ⟨_, List.getElem?_eq_getElem Zz⟩
    exact okAt_T hq a b hp (h2 (j - 1) p q hp (by rw [show j - 1 + 1 = j by omega]; exact hq))
theorem isR_sub {a p b : List CD} (h : isR (a ++ (p ++ b)) = true) : isR p = true := by
  refine isR_of (fun q hq => isR_T' h q (by simp [hq])) fun i x y hx hy => ?_
  have hl := (List.getElem?_eq_some_iff.1 hy).1
  refine isR_lt h (a.length + i) (a.length + (i + 1)) x y Zz ?_ ?_
  · rw [List.getElem?_append_right Zz, Nat.add_sub_cancel_left, List.getElem?_append_left Zz]; exact hx
  · rw [List.getElem?_append_right Zz, Nat.add_sub_cancel_left, List.getElem?_append_left Zz]; exact hy
theorem flat_split {α : Type} {ps : List (List α)} {j : Nat} {p : List α} (h : ps[j]? = some p) : ps.flatten = (ps.take j).flatten ++ (p ++ (ps.drop (j + 1)).flatten) := by
  obtain ⟨hj, e⟩ := List.getElem?_eq_some_iff.1 h
  have h1 : ps = ps.take j ++ (p :: ps.drop (j + 1)) := by rw [← e, ← List.drop_eq_getElem_cons hj, List.take_append_drop]
  conv => lhs; rw [h1]
  rw [List.flatten_append, List.flatten_cons]
theorem pgs_R {l p : List CD} (h : isR l = true) {j : Nat} (hp : (pgs l)[j]? = some p) : isR p = true := by
  have e := flat_split hp
  rw [pgs_flat] at e
  rw [e] at h
  exact isR_sub h
def lvs : Nat → List (List CD) → List LEAF
  | _, [] => []
  | a, p :: ps => (a, (pageB p).length, headT p) :: lvs (a + (pageB p).length) ps
theorem parts_back {all : Nat} : ∀ {ps : List (List CD)} {a : Nat} {last : Option (List VAL)}, (∀ p, p ∈ ps → Oks p ∧ isR p = true ∧ p ≠ [] ∧ p.length ≤ 100) → all = a + (ps.flatMap pageB).length → (∀ u, last = some u → ∀ p, ps[0]? = some p → cmpT u (headT p) < 0) → (∀ (i : Nat) p q, ps[i]? = some p → ps[i + 1]? = some q → cmpT (headT p) (headT q) < 0) →
    parts all ps.length a last (ps.flatMap leafB) = some (lvs a ps)
  | [], a, last, _, ha, _, _ => by rw [List.flatMap_nil, List.length_nil, parts, if_pos ⟨rfl, by simpa using ha.symm⟩]; rfl
  | p :: ps, a, last, h, ha, h1, h2 => by
    obtain ⟨ho, hr, hne, hl⟩ := h p List.mem_cons_self
    have hps := pageB_le ho hl
    have hT : ∀ q, q ∈ p → isT q.1 = true := fun q hq => (isR_T' hr q hq).1
    have hk := headT_ok ho hT
    have hb1 : pNum 0 0 ((p :: ps).flatMap leafB) = some ((pageB p).length, textB (keyB (headT p)) ++ ps.flatMap leafB) := by
      rw [List.flatMap_cons, leafB, List.append_assoc]
      have := pNum_back (pageB p).length 0 0 (textB (keyB (headT p)) ++ ps.flatMap leafB) Zz Zz Zz
      simpa using this
    have hb2 : pText 1048576 (textB (keyB (headT p)) ++ ps.flatMap leafB) = some (keyB (headT p), ps.flatMap leafB) := pText_back _ _ _ Zz Zz
    have hhT : isT (headT p) = true ∧ ∀ v, v ∈ headT p → okV v := by
      cases p with
      | nil => exact absurd rfl hne
      | cons q r => exact ⟨hT q List.mem_cons_self, (ho q List.mem_cons_self).2⟩
    have hb3 : pFrom (keyB (headT p)) = some (headT p) := pFrom_back hhT.1 hhT.2
    rw [List.flatMap_cons, List.length_append] at ha
    rw [List.length_cons, parts_5 (z := ((pageB p).length, _)) (y := (keyB (headT p), ps.flatMap leafB)) hb1 hb2 hb3 (by
      rintro (hh | hh)
      · simp only at hh; omega
      · cases last with
        | none => cases hh
        | some u => have := h1 u rfl p rfl; have := of_decide_eq_true hh; omega),
      parts_back (ps := ps) (a := a + (pageB p).length) (fun q hq => h q (List.mem_cons_of_mem _ hq)) (by show all = a + (pageB p).length + _; omega) (fun u hu q hq => by cases hu; exact h2 0 p q rfl (by simpa using hq)) (fun i x y hx hy => h2 (i + 1) x y (by simpa using hx) (by simpa using hy))]
    rfl
theorem head_at {p : List CD} (hne : p ≠ []) : ∃ q, p[0]? = some q ∧ headT p = q.1 := by
  cases p with
  | nil => exact absurd rfl hne
  | cons q r => exact ⟨q, rfl, rfl⟩
theorem pgs_at {l p : List CD} {j i : Nat} {q : CD} (hp : (pgs l)[j]? = some p) (hq : p[i]? = some q) : l[((pgs l).take j).flatten.length + i]? = some q := by
  have e := flat_split hp
  rw [pgs_flat] at e
  have h2 : l[((pgs l).take j).flatten.length + i]? = (((pgs l).take j).flatten ++ (p ++ ((pgs l).drop (j + 1)).flatten))[((pgs l).take j).flatten.length + i]? := congrArg (fun z => z[((pgs l).take j).flatten.length + i]?) e
  rw [h2, List.getElem?_append_right Zz, Nat.add_sub_cancel_left, List.getElem?_append_left (List.getElem?_eq_some_iff.1 hq).1]
  exact hq
theorem take_flat {α : Type} {ps : List (List α)} {j j' : Nat} {p : List α} (h : ps[j]? = some p) (hj : j < j') : (ps.take j).flatten.length + p.length ≤ (ps.take j').flatten.length := by
  have h1 : (ps.take j')[j]? = some p := by rw [List.getElem?_take, if_pos hj]; exact h
  have e := congrArg List.length (flat_split h1)
  rw [List.take_take, Nat.min_eq_left Zz, List.length_append, List.length_append] at e
  omega
theorem heads_lt {l p q : List CD} (hr : isR l = true) {i j : Nat} (hij : i < j) (hp : (pgs l)[i]? = some p) (hq : (pgs l)[j]? = some q) : cmpT (headT p) (headT q) < 0 := by
  obtain ⟨x, hx, ex⟩ := head_at (pgs_ne (List.mem_of_getElem? hp))
  obtain ⟨y, hy, ey⟩ := head_at (pgs_ne (List.mem_of_getElem? hq))
  rw [ex, ey]
  have h1 := take_flat hp hij
  have h2 := (List.getElem?_eq_some_iff.1 hx).1
  exact isR_lt hr _ _ x y Zz (pgs_at hp hx) (pgs_at hq hy)
theorem le4_low {k : Nat} (h : k < 4294967296) : le4 (low4 k) = k := by
  have e : ∀ a : Nat, (UInt8.ofNat a).toNat = a % 256 := fun a => by rw [UInt8.toNat_ofNat']
  rw [low4, le4]
  simp only [List.getD_cons_zero, List.getD_cons_succ, e]
  omega
theorem idxP_back {l : List CD} (h : Oks l) (hr : isR l = true) (hl : l.length ≤ 100) : idxP (runB l) = some (lvs 0 (pgs l), l.length) := by
  obtain ⟨z1, z2, z3, z4⟩ := run_sizes h hr hl
  have hpl := pgs_len l
  have ht8 : (tailB (idxB (pgs l) l.length).length).length = 8 := by rw [tailB, seal_len]; rfl
  have hlen : (runB l).length = ((pgs l).flatMap pageB).length + (idxB (pgs l) l.length).length + 8 := by rw [runB, List.length_append, List.length_append, ht8]
  have hT : openC ((runB l).drop ((runB l).length - 8)) = (0, low4 (idxB (pgs l) l.length).length) := by
    rw [hlen, Nat.add_sub_cancel, runB, List.drop_append_of_le_length (by rw [List.length_append]; omega), List.drop_of_length_le (by rw [List.length_append]; omega), List.nil_append, tailB, open_seal]
  have hle : le4 (openC ((runB l).drop ((runB l).length - 8))).2 = (idxB (pgs l) l.length).length := by rw [hT]; exact le4_low Zz
  rw [idx_c Zz (by rw [hT]), ]
  generalize hg : (openC ((runB l).drop ((runB l).length - 8))).2 = t at hle ⊢
  have hall : (runB l).length - 8 - le4 t = ((pgs l).flatMap pageB).length := by rw [hlen, hle]; omega
  have hI : openC (((runB l).take ((runB l).length - 8 - le4 t + le4 t)).drop ((runB l).length - 8 - le4 t)) = (0, numB (pgs l).length ++ numB l.length ++ (pgs l).flatMap leafB) := by
    rw [hall, hle, List.drop_take, Nat.add_sub_cancel_left, runB, List.append_assoc, List.drop_left, List.take_left, idxB, open_seal]
  rw [idx_f (by rw [hle]; omega) (by rw [hI]), hI, hall]
  have hn1 : pNum 0 0 (numB (pgs l).length ++ numB l.length ++ (pgs l).flatMap leafB) = some ((pgs l).length, numB l.length ++ (pgs l).flatMap leafB) := by
    rw [List.append_assoc]
    have := pNum_back (pgs l).length 0 0 (numB l.length ++ (pgs l).flatMap leafB) Zz Zz Zz
    simpa using this
  have hn2 : pNum 0 0 (numB l.length ++ (pgs l).flatMap leafB) = some (l.length, (pgs l).flatMap leafB) := by
    have := pNum_back l.length 0 0 ((pgs l).flatMap leafB) Zz Zz Zz
    simpa using this
  rw [idx_j (z := ((pgs l).length, _)) (y := (l.length, _)) hn1 hn2 (by simp only; omega)]
  simp only
  rw [parts_back (a := 0) (last := none) (fun p hp => ?_) Zz (fun u hu => by cases hu) (fun i p q hp hq => heads_lt hr (Nat.lt_succ_self i) hp hq)]
  · rfl
  · obtain ⟨j, hj⟩ := List.getElem?_of_mem hp
    exact ⟨h.sub (pgs_sub hp), pgs_R hr hj, pgs_ne hp, Nat.le_trans (pgs_plen hp) hl⟩
theorem create_ok {s : DS} {nm : ByteArray} (h : (s.create nm).1 = 0) : s.create nm = (0, (({ s with fs := s.fs ++ [([], [])] } : DS).note (⟨#[]⟩, nm, (s.fs.length : Int))).did) ∧ asc nm s.dir = none ∧ nm ≠ ⟨#[]⟩ ∧ s.down = false := by
  rw [DS.create] at h ⊢
  split at h
  · exact absurd h (by simp)
  · rename_i h1; split at h
    · exact absurd h (by simp)
    · rename_i h2; split at h
      · exact absurd h (by simp)
      · rename_i h3; split at h
        · exact absurd h (by simp)
        · rename_i h4
          rw [if_neg h1, if_neg h2, if_neg h3, if_neg h4]
          refine ⟨rfl, ?_, ?_, ?_⟩
          · cases ha : asc nm s.dir with
            | none => rfl
            | some k => rw [ha] at h3; exact absurd rfl h3
          · cases hq : rightN nm with
            | false => exact absurd hq h2
            | true => rw [rightN] at hq; exact (of_decide_eq_true hq).1
          · cases hq : s.down with
            | false => rfl
            | true => exact absurd hq h1
theorem write_ok {s : DS} {nm : ByteArray} {k : Int} {x : List UInt8} (h : (s.write nm 0 x).1 = 0) (ha : asc nm s.dir = some k) : s.write nm 0 x = (0, ({ s with fs := s.fs.set k.toNat (wrt (fat s.fs k).1 0 x, (fat s.fs k).2), ls := markL k 0 (touched 0 x.length) s.ls } : DS).did) := by
  rw [DS.write, ha] at h ⊢
  split at h
  · exact absurd h (by simp)
  · rename_i h1
    simp only at h ⊢
    split at h
    · exact absurd h (by simp)
    · rename_i h2; split at h
      · exact absurd h (by simp)
      · rename_i h3; split at h
        · exact absurd h (by simp)
        · rename_i h4; rw [if_neg h1, if_neg h2, if_neg h3, if_neg h4]; rfl
theorem sync_ok {s : DS} {nm : ByteArray} {k : Int} (h : (s.sync nm).1 = 0) (ha : asc nm s.dir = some k) : s.sync nm = (0, ({ s with fs := s.fs.set k.toNat ((fat s.fs k).1, (fat s.fs k).1), ls := s.ls.filter fun p => decide (p.1.1 ≠ k) } : DS).did) := by
  rw [DS.sync, ha] at h ⊢
  split at h
  · exact absurd h (by simp)
  · rename_i h1; rw [if_neg h1]
theorem markL_keys (k : Int) : ∀ (n s : Nat) (l : LS), (∀ p, p ∈ l → p.1.1 = k) → ∀ p, p ∈ markL k s n l → p.1.1 = k
  | 0, _, _, h => h
  | n + 1, s, l, h => markL_keys k n (s + 1) _ (fun p hp => by
      rcases put_mem hp with h1 | h1
      · rw [h1]
      · exact h p h1)
theorem markL_filter (k : Int) (s n : Nat) : (markL k s n []).filter (fun p => decide (p.1.1 ≠ k)) = [] := List.filter_eq_nil_iff.2 fun p hp => by
  have := markL_keys k n s [] (fun _ h => by cases h) p hp
  simp [this]
theorem wrt_nil (x : List UInt8) : wrt [] 0 x = x := by simp [wrt]
theorem fat_last (fs : List FILE) (f : FILE) : fat (fs ++ [f]) (fs.length : Int) = f := by
  rw [fat, List.getD_eq_getElem?_getD, Int.toNat_natCast, List.getElem?_append_right (Nat.le_refl _), Nat.sub_self]; rfl
theorem fat_set {fs : List FILE} {k : Nat} (f : FILE) (h : k < fs.length) : fat (fs.set k f) (k : Int) = f := by
  rw [fat, List.getD_eq_getElem?_getD, Int.toNat_natCast, List.getElem?_set_self h]; rfl
theorem runW_back {s : DS} {nm : ByteArray} {l : List CD} (h : (s.runW nm l).1 = 0) : isR l = true ∧ (∃ k : Nat, asc nm (s.runW nm l).2.dir = some (k : Int) ∧ fat (s.runW nm l).2.fs (k : Int) = (runB l, runB l)) ∧ (s.ls = [] → (s.runW nm l).2.ls = []) := by
  rw [DS.runW] at h ⊢
  split at h
  · exact absurd h (by simp)
  · rename_i h1
    split at h
    · rename_i h2; exact absurd h h2
    · rename_i h2
      split at h
      · rename_i h3; exact absurd h h3
      · rename_i h3
        rw [if_neg h1, if_neg h2, if_neg h3]
        have hR : isR l = true := by
          cases hq : isR l with
          | true => rfl
          | false => exact absurd hq h1
        obtain ⟨e1, g1, g2, g3⟩ := create_ok (Classical.byContradiction h2)
        have hd : asc nm (s.create nm).2.dir = some (s.fs.length : Int) := by
          rw [e1]
          show asc nm (trn (⟨#[]⟩, nm, (s.fs.length : Int)) s.dir) = _
          rw [trn_eq, if_neg g2, if_pos rfl, asc_put, if_pos rfl]
        have hf : fat (s.create nm).2.fs (s.fs.length : Int) = ([], []) := by rw [e1]; exact fat_last _ _
        have hl : (s.create nm).2.fs.length = s.fs.length + 1 := by rw [e1]; exact List.length_append
        have e2 := write_ok (Classical.byContradiction h3) hd
        rw [hf, wrt_nil] at e2
        have hd2 : asc nm ((s.create nm).2.write nm 0 (runB l)).2.dir = some (s.fs.length : Int) := by rw [e2]; exact hd
        have hf2 : fat ((s.create nm).2.write nm 0 (runB l)).2.fs (s.fs.length : Int) = (runB l, []) := by
          rw [e2]
          show fat ((s.create nm).2.fs.set (s.fs.length : Int).toNat (runB l, [])) _ = _
          rw [Int.toNat_natCast]; exact fat_set _ Zz
        have e3 := sync_ok h hd2
        rw [hf2] at e3
        refine ⟨hR, ⟨s.fs.length, by rw [e3]; exact hd2, ?_⟩, fun hls => ?_⟩
        · rw [e3]
          show fat (((s.create nm).2.write nm 0 (runB l)).2.fs.set (s.fs.length : Int).toNat (runB l, runB l)) _ = _
          rw [Int.toNat_natCast]
          refine fat_set _ ?_
          rw [e2]
          show _ < ((s.create nm).2.fs.set (s.fs.length : Int).toNat (runB l, [])).length
          rw [List.length_set]; omega
        · rw [e3, e2, e1]
          show (markL (s.fs.length : Int) 0 (touched 0 (runB l).length) s.ls).filter _ = []
          rw [hls]
          exact markL_filter _ _ _
theorem file_read {s : DS} {nm : ByteArray} {k : Nat} {x : List UInt8} (h1 : asc nm s.dir = some (k : Int)) (h2 : fat s.fs (k : Int) = (x, x)) : s.sizeOf nm = ((x.length : Int), 0) ∧ s.whole nm = x ∧ ∀ a n : Nat, a + n ≤ x.length → s.read nm (a : Int) (n : Int) = ((x.drop a).take n, 0) := by
  have e0 : s.sizeOf nm = ((x.length : Int), 0) := by
    rw [DS.sizeOf, h1]
    have : flen s.fs (k : Int) = (fat s.fs (k : Int)).1.length := rfl
    simp only [this, h2]
  have e1 : ∀ a n : Nat, a + n ≤ x.length → s.read nm (a : Int) (n : Int) = ((x.drop a).take n, 0) := fun a n han => by
    rw [DS.read, h1]
    simp only [h2]
    rw [if_neg Zz]; simp only [Int.toNat_natCast]
  refine ⟨e0, ?_, e1⟩
  rw [DS.whole, e0]
  have := e1 0 x.length Zz
  rw [show ((0 : Nat) : Int) = 0 from rfl] at this
  simp only [this, List.drop_zero, List.take_length]
theorem take_eq_step {α : Type} {l1 l2 : List α} {i : Nat} {x : α} (h : l1.take i = l2.take i) (h1 : l1[i]? = some x) (h2 : l2[i]? = some x) : l1.take (i + 1) = l2.take (i + 1) := by
  rw [List.take_add_one, List.take_add_one, h, h1, h2]
theorem CD_ext {a b : CD} (h1 : cmpT a.1 b.1 = 0) (h2 : a.2 = b.2) : a = b := Prod.ext ((cmpT_0 _ _).1 h1) h2
theorem RSame_c {lo1 hi1 lo2 hi2 : Nat} {A1 A2 : Option Addr} {n1 n2 c1 c2 : Nat} {l1 l2 : List CD} (w : World) (hs1 : Sl KC lo1 hi1 w A1 n1 l1) (hs2 : Sl KC lo2 hi2 w A2 n2 l2) : Ret Tryz.prog 14 #[.slice A1 n1 c1, .slice A2 n2 c2] w fun r w' => r = .bool (decide (l1 = l2)) ∧ Keep w w' := by
 obtain ⟨L1, hsL1, hLl1, hLt1⟩ := kc_hd hs1
 obtain ⟨L2, hsL2, hLl2, hLt2⟩ := kc_hd hs2
 have hsl1 := hs1.len
 have hsl2 := hs2.len
 have hsb1 := hs1.bound
 refine X.enter Zf14 rfl Tryz.ntmps14 rfl<|Zs<|Zr<|Zoa rfl rfl<|Ze<|Zs<|Zs<|Zr<|Zoms rfl rfl<|Zo (X.lenSl Zu29 rfl) rfl<|Zoms rfl rfl<|Zo (X.lenSl Zu29 rfl) rfl<|X.opP X.wN rfl rfl (X.neI rfl rfl) (fun h10 => ?_) (fun h10 => ?_)
 ·refine Ze<|Zt rfl<|Zs<|Zr<|Zoa rfl rfl<|Ze<|X.ret1 (v := (.bool _)) Zf14 Zr14 rfl ?_
  exact ⟨by rw [decide_eq_false (fun e => by subst e; omega)], (Keep.refl _)⟩
 ·refine Ze<|Zf rfl<|Zk<|Zs<|Zs<|Zr<|Zoa rfl rfl<|Ze<|Zb<|X.loopL (σ := Nat) (fun s => [(0, .slice A1 n1 c1), (1, .slice A2 n2 c2), (5, .int .i64 (s : Int))]) (fun s w' => s ≤ n1 ∧ l1.take s = l2.take s ∧ Keep w w') (fun s => n1 - s) 0 ⟨rfl, rfl, rfl, trivial⟩ ⟨by omega, rfl, (Keep.refl _)⟩ ?_
  rintro i b w1 ⟨hi, hI, hk⟩ hback
  have hk0 := hk.size
  have hn12 : n1 = n2 := by omega
  refine Zs<|Zs<|Zr<|Zomi rfl rfl<|Zoms rfl rfl<|Zo (X.lenSl Zu29 rfl) rfl<|X.opP X.wN rfl rfl (X.lss rfl rfl) (fun h14 => ?_) (fun h14 => ?_)
  ·obtain ⟨x1, hx1⟩ : ∃ x, L1[i]? = some x := ⟨_, List.getElem?_eq_getElem Zz⟩
   obtain ⟨q1, hq1, eq1, oq1, nq1, ht1⟩ := hLt1 _ _ hx1
   obtain ⟨x2, hx2⟩ : ∃ x, L2[i]? = some x := ⟨_, List.getElem?_eq_getElem Zz⟩
   obtain ⟨q2, hq2, eq2, oq2, nq2, ht2⟩ := hLt2 _ _ hx2
   refine Ze<|Zt rfl<|Zk<|Zs<|Zb<|Zs<|X.regionD (fun _ => False) 25 Zl Zl (fun w1 hk1 hz1 => ?_)
   refine ZDc 0 rfl Zl (Zdms rfl)<|ZDc 1 rfl Zl (Zdmi rfl)<|ZD 2 rfl Zl (fun w' hk' => X.idxS (hsL1.keep ((hk.trans hk1).trans hk')) Zu29 Zs92 rfl rfl ⟨by omega, by omega⟩)<|ZDc 3 rfl Zl (X.fldA Zu92 rfl rfl Zs2)<|ZD 4 rfl Zl (fun w' hk' => X.loadSf (o := 1) Zi2 (hsL1.keep ((hk.trans hk1).trans hk')) hx1 rfl (fun _ h => by rw [h.1]; rfl)) ?_
   refine ZDc 5 rfl Zl (Zdms rfl)<|ZDc 6 rfl Zl (Zdmi rfl)<|ZD 7 rfl Zl (fun w' hk' => X.idxS (hsL2.keep ((hk.trans hk1).trans hk')) Zu29 Zs92 rfl rfl ⟨by omega, by omega⟩)<|ZDc 8 rfl Zl (X.fldA Zu92 rfl rfl Zs2)<|ZD 9 rfl Zl (fun w' hk' => X.loadSf (o := 1) Zi2 (hsL2.keep ((hk.trans hk1).trans hk')) hx2 rfl (fun _ h => by rw [h.1]; rfl)) ?_
   refine ZDc 10 rfl Zl (X.neI rfl rfl)<|ZDc 11 rfl Zl (Zdmo rfl)<|X.dFork 28 rfl (fun h28 => ?_) (fun h28 => ?_)
   ·have hN := of_decide_eq_true h28
    refine X.dTakeS 12 rfl Zl Zl Zl rfl rfl rfl rfl<|X.dTakeS 13 rfl Zl Zl Zl rfl rfl rfl rfl<|X.dTakeS 14 rfl Zl Zl Zl rfl rfl rfl rfl<|X.dTakeS 15 rfl Zl Zl Zl rfl rfl rfl rfl<|X.dTakeS 16 rfl Zl Zl Zl rfl rfl rfl rfl<|X.dTakeS 17 rfl Zl Zl Zl rfl rfl rfl rfl<|ZS 18 Zl rfl rfl rfl<|ZS 19 Zl rfl rfl rfl<|ZS 20 Zl rfl rfl rfl<|ZS 21 Zl rfl rfl rfl<|ZS 22 Zl rfl rfl rfl<|ZS 23 Zl rfl rfl rfl<|ZDc 24 rfl Zl (ZdTt rfl rfl)<|Zdend Zl<|Zt rfl<|Zs<|Zr<|Zoa rfl rfl<|Ze<|X.ret1 (v := (.bool _)) Zf14 Zr14 rfl ?_
    exact ⟨by rw [decide_eq_false (fun e => by subst e; rw [hq1] at hq2; cases hq2; exact hN (eq1.trans eq2.symm))], (hk.trans hk1)⟩
   ·have hN : q1.2 = q2.2 := by rw [← eq1, ← eq2]; exact Classical.byContradiction (of_decide_eq_false h28)
    refine ZG 12 rfl rfl rfl Zl (fun w' hk' => Zdms rfl)<|ZG 13 rfl rfl rfl Zl (fun w' hk' => Zdmi rfl)<|ZG 14 rfl rfl rfl Zl (fun w' hk' => X.idxS (hsL1.keep ((hk.trans hk1).trans hk')) Zu29 Zs92 rfl rfl ⟨by omega, by omega⟩)<|ZG 15 rfl rfl rfl Zl (fun w' hk' => X.fldA Zu92 rfl rfl Zs90)<|ZG 16 rfl rfl rfl Zl (fun w' hk' => X.loadSf (o := 0) Zi90 (hsL1.keep ((hk.trans hk1).trans hk')) hx1 rfl (fun _ h => by rw [h.1]; rfl)) ?_
    refine ZG 17 rfl rfl rfl Zl (fun w' hk' => Zdms rfl)<|ZG 18 rfl rfl rfl Zl (fun w' hk' => Zdmi rfl)<|ZG 19 rfl rfl rfl Zl (fun w' hk' => X.idxS (hsL2.keep ((hk.trans hk1).trans hk')) Zu29 Zs92 rfl rfl ⟨by omega, by omega⟩)<|ZG 20 rfl rfl rfl Zl (fun w' hk' => X.fldA Zu92 rfl rfl Zs90)<|ZG 21 rfl rfl rfl Zl (fun w' hk' => X.loadSf (o := 0) Zi90 (hsL2.keep ((hk.trans hk1).trans hk')) hx2 rfl (fun _ h => by rw [h.1]; rfl)) ?_
    refine X.dE (i := 22) Zl rfl (X.dwG rfl rfl rfl) (X.callE (R02Compare_c _ (ht1.keep (hk.trans hk1)) (ht2.keep (hk.trans hk1))) Tryz.call43 rfl rfl) (by rintro _ w2 ⟨rfl, hk2⟩ _; exact hk2.mono (fun _ _ h => h.elim)) ?_
    rintro _ w2 ⟨rfl, hk2⟩
    have hk2' := hk2.size
    refine ZG 23 rfl rfl rfl Zl (fun w' hk' => X.neI rfl rfl)<|ZDc 24 rfl Zl (ZdFo rfl rfl)<|Zdend Zl<|X.condB rfl (fun hc41 => ?_) (fun hc41 => ?_)
    ·have hc := of_decide_eq_true hc41
     refine Zs<|Zr<|Zoa rfl rfl<|Ze<|X.ret1 (v := (.bool _)) Zf14 Zr14 rfl ?_
     exact ⟨by rw [decide_eq_false (fun e => by subst e; rw [hq1] at hq2; cases hq2; exact hc (cmpT_self _))], ((hk.trans hk1).trans hk2)⟩
    ·have hc : cmpT q1.1 q2.1 = 0 := Classical.byContradiction (of_decide_eq_false hc41)
     have hqq := CD_ext hc hN
     subst hqq
     refine Zk<|Zi<|Zr<|Zomi rfl rfl<|Zo (X.add rfl rfl (X.w_i64 Zz)) rfl<|Zoai rfl rfl<|Ze ?_
     refine hback (i + 1) _ _ ⟨rfl, rfl, rfl, trivial⟩ ⟨by omega, take_eq_step hI hq1 hq2, ((hk.trans hk1).trans hk2)⟩ Zz
  ·refine Ze<|Zf rfl<|Zx rfl<|Zs<|Zr<|Zoa rfl rfl<|Ze<|X.ret1 (v := (.bool _)) Zf14 Zr14 rfl ?_
   have e : l1 = l2 := by
     have h := hI
     rw [List.take_of_length_le Zz, List.take_of_length_le Zz] at h
     exact h
   exact ⟨by rw [decide_eq_true e], hk⟩
structure OnD (s : DS) (nm : ByteArray) (l : List CD) : Prop where
  sz : s.sizeOf nm = (((runB l).length : Int), 0)
  wh : s.whole nm = runB l
  rd : ∀ a n : Nat, a + n ≤ (runB l).length → s.read nm (a : Int) (n : Int) = (((runB l).drop a).take n, 0)
theorem onD_of {s : DS} {nm : ByteArray} {l : List CD} (h : (s.runW nm l).1 = 0) : OnD (s.runW nm l).2 nm l := by
  obtain ⟨_, ⟨k, h1, h2⟩, _⟩ := runW_back h
  obtain ⟨a, b, c⟩ := file_read h1 h2
  exact ⟨a, b, c⟩
structure Good (l : List CD) : Prop where
  ok : Oks l
  r : isR l = true
  n : l.length ≤ 100
theorem rOpen_run {col : Nat → Nat} {w : World} {b : Nat} {s : DS} {nm : ByteArray} {l : List CD} (hD : DkR col w b s) (hok : s.Ok) (ho : OnD s nm l) (g : Good l) (hTb : TabOk w) : Ret Tryz.prog 9 #[ptrV b, .string nm] w fun rv w' => (∃ r, rv = .tuple #[ptrV r, .int .i64 0] ∧ w.heap.size ≤ r ∧ r < w'.heap.size ∧ RunO w.heap.size w'.heap.size w' r b nm (lvs 0 (pgs l)) l.length) ∧ Keep w w' := by
  have hz := (run_sizes g.ok g.r g.n).2.2.2
  refine (rOpen_c hD hok nm (by rw [ho.sz]; simp only []; omega) hTb).mono fun rv w' ⟨h1, hk⟩ => ⟨?_, hk⟩
  rw [if_neg (by rw [ho.sz]; simp), ho.wh, idxP_back g.ok g.r g.n] at h1
  exact h1
theorem runW_new {rm : Int} {nm : ByteArray} {l : List CD} (hn : rightN nm = true) (hr : isR l = true) (hl : (runB l).length ≤ 1048576) (hrm : ((secs (runB l).length : Nat) : Int) ≤ rm) : ((DS.mk0 rm [] [] []).runW nm l).1 = 0 := by
  have hne : nm ≠ ⟨#[]⟩ := by rw [rightN] at hn; exact (of_decide_eq_true hn).1
  have hc : (DS.mk0 rm [] [] []).create nm = (0, (((DS.mk0 rm [([], [])] [] []) : DS).note (⟨#[]⟩, nm, 0)).did) := by
    rw [DS.create, if_neg (show ¬ (DS.mk0 rm [] [] []).down = true from Bool.false_ne_true), if_neg (by rw [hn]; decide), if_neg (show ¬ (asc nm (DS.mk0 rm [] [] []).dir).isSome = true from Bool.false_ne_true), if_neg (show ¬ 256 ≤ (DS.mk0 rm [] [] []).dir.length from (by decide : ¬ 256 ≤ 0))]; rfl
  have hd : ((DS.mk0 rm [] [] []).create nm).2.dir = [(nm, 0)] := by
    rw [hc]
    show trn (⟨#[]⟩, nm, 0) [] = _
    rw [trn_eq, if_neg hne, if_pos rfl]; rfl
  have ha : asc nm ((DS.mk0 rm [] [] []).create nm).2.dir = some 0 := by rw [hd]; simp [asc]
  have hf : ((DS.mk0 rm [] [] []).create nm).2.fs = [([], [])] := by rw [hc]; rfl
  have hu : ((DS.mk0 rm [] [] []).create nm).2.used = 0 := by
    rw [DS.used, costs, hd, hf]
    show (cost (flen [([], [])]) [(nm, 0)] nm) + 0 = 0
    rw [cost]; simp [asc, flen]
  have hw : (((DS.mk0 rm [] [] []).create nm).2.write nm 0 (runB l)).1 = 0 := by
    rw [DS.write, if_neg (by rw [hc]; exact Bool.false_ne_true), ha]
    simp only
    rw [hf, if_neg (by show ¬ ((0 : Int) < 0 ∨ ((0 : Nat) : Int) < 0); decide), if_neg Zz, if_neg]
    rw [hu, show ((DS.mk0 rm [] [] []).create nm).2.rm = rm by rw [hc]; rfl]
    show ¬ rm < ((0 : Nat) : Int) + ((secs (max 0 (0 + (runB l).length)) : Nat) : Int) - ((secs 0 : Nat) : Int)
    rw [Nat.zero_add, Nat.zero_max]
    have : secs 0 = 0 := rfl
    omega
  have hdn : (((DS.mk0 rm [] [] []).create nm).2.write nm 0 (runB l)).2.down = false := by
    rw [write_ok hw ha, hc]; rfl
  have hd2 : asc nm (((DS.mk0 rm [] [] []).create nm).2.write nm 0 (runB l)).2.dir = some 0 := by rw [write_ok hw ha]; exact ha
  rw [DS.runW, if_neg (by rw [hr]; decide), if_neg (by rw [hc]; exact fun h => h rfl), if_neg (fun h => h hw), DS.sync, hdn, hd2]
  rfl
theorem rWrite_good {col : Nat → Nat} {b : Nat} {s : DS} (nm : ByteArray) {lo hi : Nat} {A : Option Addr} {n c : Nat} {l : List CD} (w : World) (hs : Sl KC lo hi w A n l) (hhi : hi ≤ w.heap.size) (h : DkR col w b s) (hi : s.Inv) (hnm : nm.size ≤ 9223372036854775807) (hsz : s.size ≤ 100000) (hnc : n ≤ c) (g : Good l) (hTb : TabOk w) (h0 : (s.runW nm l).1 = 0) : Ret Tryz.prog 7 #[ptrV b, .string nm, .slice A n c] w fun r w' => r = .int .i64 0 ∧ ∃ col', DkR col' w' b (s.runW nm l).2 ∧ Stp col w col' w' := by
  have := rWrite_c nm w hs hhi h hi hnm hsz hnc (by rw [← hs.len]; exact g.n) g.ok hTb
  rwa [h0] at this
abbrev HH := Option Addr × Nat × Nat
def KH : Kd HH := Kd.plain 1 (fun x => [.slice x.1 x.2.1 x.2.2]) (fun _ => True) (fun _ => rfl) (fun _ u hu => by simp at hu; subst hu; rfl)
theorem KH_flat : Flat KH := fun h => h
def NdPg (lo hi : Nat) (w0 : World) : Nd HH (List CD) where
  K := KH
  flat := KH_flat
  R := fun TB w x p => x.2.1 ≤ x.2.2 ∧ ∃ L, HdC lo hi w0 L p ∧ ∃ lo' hi', (∀ k, lo' ≤ k → k < hi' → TB k) ∧ Sl KCt lo' hi' w x.1 x.2.1 L
  ext := fun ⟨h1, L, h2, lo', hi', h3, h4⟩ y hU => ⟨h1, L, h2, lo', hi', h3, h4.ext y fun k a b => hU k (h3 k a b)⟩
  mono := fun ⟨h1, L, h2, lo', hi', h3, h4⟩ hT => ⟨h1, L, h2, lo', hi', fun k a b => hT k (h3 k a b), h4⟩
theorem mine_pg {lo hi : Nat} {w0 w : World} {S : Nat → Prop} {A : Option Addr} {n c : Nat} {L : List CT} {p : List CD} (h : Mine KCt 92 S 0 0 w (.slice A n c) L) (ht : HdC lo hi w0 L p) : (NdPg lo hi w0).R S w (A, n, c) p := by
  obtain ⟨b, ho, hb⟩ := h
  cases b with
  | none =>
    obtain ⟨A', c', e, hc, hs⟩ := (ho.flat KCt_flat (lo' := 0) (hi' := 0)).sl (fun k hk => by cases hk)
    injection e with e1 e2 e3
    subst e1 e2 e3
    exact ⟨hc, L, ht, 0, 0, fun k _ h => by omega, hs⟩
  | some b =>
    obtain ⟨A', c', e, hc, hs⟩ := (ho.flat KCt_flat (lo' := b) (hi' := b + 1)).sl (fun k hk => by cases hk; omega)
    injection e with e1 e2 e3
    subst e1 e2 e3
    exact ⟨hc, L, ht, b, b + 1, fun k h1 h2 => by have : k = b := by omega
                                                  rw [this]; exact hb b rfl, hs⟩
theorem HdC.snoc {lo hi : Nat} {w : World} {L : List CT} {p : List CD} {x : CT} {q : CD} (h : HdC lo hi w L p) (h1 : x.2 = q.2) (h2 : okI q.2) (h3 : x.1.2.1 ≤ x.1.2.2) (h4 : Sl KV lo hi w x.1.1 x.1.2.1 q.1) : HdC lo hi w (L ++ [x]) (p ++ [q]) := by
  refine ⟨by rw [List.length_append, List.length_append, h.1]; rfl, fun i y hy => ?_⟩
  rcases Nat.lt_or_ge i L.length with hi' | hi'
  · rw [List.getElem?_append_left hi'] at hy
    rw [List.getElem?_append_left (by rw [← h.1]; exact hi')]
    exact h.2 i y hy
  · have hl := (List.getElem?_eq_some_iff.1 hy).1
    rw [List.length_append, List.length_singleton] at hl
    have e : i = L.length := by omega
    subst e
    rw [List.getElem?_append_right (Nat.le_refl _), Nat.sub_self] at hy
    cases hy
    exact ⟨q, by rw [h.1, List.getElem?_append_right (Nat.le_refl _), Nat.sub_self]; rfl, h1, h2, h3, h4⟩
theorem HdC.nil (lo hi : Nat) (w : World) : HdC lo hi w [] [] := ⟨rfl, fun i x h => by simp at h⟩
structure PgS (lo hi base : Nat) (w0 w : World) (v : Value) (hs : List HH) (ps : List (List CD)) (cur : List CD) (So Sc Gp : Nat → Prop) (Lc : List CT) : Prop where
  o : Mine KH 29 So 0 0 w v hs
  so : ∀ k, So k → base ≤ k ∧ k < w.heap.size
  sc : ∀ k, Sc k → base ≤ k ∧ k < w.heap.size
  gp : ∀ k, Gp k → base ≤ k ∧ k < w.heap.size
  d1 : ∀ k, So k → ¬ Sc k ∧ ¬ Gp k
  d2 : ∀ k, Sc k → ¬ Gp k
  b : base ≤ w.heap.size
  hc : HdC lo hi w0 Lc cur
  e : (hs = [] ∧ ps = [] ∧ cur = []) ∨ ∃ L x, hs = L ++ [x] ∧ (NdPg lo hi w0).All Gp w L ps ∧ Mine KCt 92 Sc 0 0 w (.slice x.1 x.2.1 x.2.2) Lc ∧ cur ≠ []
section
variable {lo hi base : Nat} {w0 w w' : World} {v : Value} {hs : List HH} {ps : List (List CD)} {cur : List CD} {So Sc Gp : Nat → Prop} {Lc : List CT}
theorem PgS.nil (lo hi base : Nat) (w0 w : World) (hb : base ≤ w.heap.size) : PgS lo hi base w0 w (.slice none 0 0) [] [] [] (fun _ => False) (fun _ => False) (fun _ => False) [] :=
  ⟨Mine.nil _ _ _ _ _ _, fun _ h => h.elim, fun _ h => h.elim, fun _ h => h.elim, fun _ h => h.elim, fun _ h => h.elim, hb, HdC.nil _ _ _, .inl ⟨rfl, rfl, rfl⟩⟩
theorem PgS.keep (h : PgS lo hi base w0 w v hs ps cur So Sc Gp Lc) (x : Keep w w') : PgS lo hi base w0 w' v hs ps cur So Sc Gp Lc := by
  have hz := x.size
  exact ⟨h.o.keep x, fun k a => by have := h.so k a; omega, fun k a => by have := h.sc k a; omega, fun k a => by have := h.gp k a; omega, h.d1, h.d2, by have := h.b; omega, h.hc, h.e.imp id fun ⟨L, y, h1, h2, h3, h4⟩ => ⟨L, y, h1, h2.keep x, h3.keep x, h4⟩⟩
theorem PgS.more {L : List HH} {x x' : HH} {y : CT} {q : CD} {v' : Value} (h : PgS lo hi base w0 w v (L ++ [x]) ps cur So Sc Gp Lc) (hm : Mine KCt 92 (fun k => Sc k ∨ w.heap.size ≤ k) 0 0 w' (.slice x'.1 x'.2.1 x'.2.2) (Lc ++ [y])) (ho : Mine KH 29 So 0 0 w' v' (L ++ [x'])) (hx : Ext (fun k => So k ∨ Sc k ∨ w.heap.size ≤ k) w w') (h1 : y.2 = q.2) (h2 : okI q.2) (h3 : y.1.2.1 ≤ y.1.2.2) (h4 : Sl KV lo hi w0 y.1.1 y.1.2.1 q.1) : PgS lo hi base w0 w' v' (L ++ [x']) ps (cur ++ [q]) So (fun k => (Sc k ∨ w.heap.size ≤ k) ∧ k < w'.heap.size) Gp (Lc ++ [y]) := by
  have hz := hx.size
  have hb := h.b
  rcases h.e with ⟨e, _⟩ | ⟨L', z, e, hA, _, _⟩
  · exact absurd e (by simp)
  have e1 := congrArg (List.take L.length) e
  have hl : L'.length = L.length := by have := congrArg List.length e; simpa using this.symm
  rw [List.take_left' rfl, List.take_left' hl] at e1
  subst e1
  refine ⟨ho, fun k a => by have := h.so k a; omega, fun k a => ?_, fun k a => by have := h.gp k a; omega, fun k a => ⟨fun b => ?_, (h.d1 k a).2⟩, fun k a b => ?_, by omega, h.hc.snoc h1 h2 h3 h4, .inr ⟨L, x', rfl, hA.ext hx fun k a b => ?_, hm.mono fun k a b => ⟨b, a⟩, by simp⟩⟩
  · rcases a with ⟨a | a, a'⟩
    · have := h.sc k a; omega
    · omega
  · rcases b with ⟨b | b, _⟩
    · exact (h.d1 k a).1 b
    · have := h.so k a; omega
  · rcases a with ⟨a | a, _⟩
    · exact h.d2 k a b
    · have := h.gp k b; omega
  · rcases b with b | b | b
    · exact (h.d1 k b).2 a
    · exact h.d2 k b a
    · have := h.gp k a; omega
theorem PgS.page {w1 : World} {x' : HH} {y : CT} {q : CD} {v' : Value} {Sn : Nat → Prop} (h : PgS lo hi base w0 w v hs ps cur So Sc Gp Lc) (hk : Keep w w1) (hm : Mine KCt 92 Sn 0 0 w1 (.slice x'.1 x'.2.1 x'.2.2) [y]) (hSn : ∀ k, Sn k → w.heap.size ≤ k ∧ k < w1.heap.size) (ho : Mine KH 29 (fun k => So k ∨ w1.heap.size ≤ k) 0 0 w' v' (hs ++ [x'])) (hx : Ext (fun k => So k ∨ w1.heap.size ≤ k) w1 w') (h1 : y.2 = q.2) (h2 : okI q.2) (h3 : y.1.2.1 ≤ y.1.2.2) (h4 : Sl KV lo hi w0 y.1.1 y.1.2.1 q.1) :
    PgS lo hi base w0 w' v' (hs ++ [x']) (if cur = [] then ps else ps ++ [cur]) [q] (fun k => (So k ∨ w1.heap.size ≤ k) ∧ k < w'.heap.size) Sn (fun k => Gp k ∨ Sc k) [y] := by
  have hz := hx.size
  have hz1 := hk.size
  have hb := h.b
  have hm' : Mine KCt 92 Sn 0 0 w' (.slice x'.1 x'.2.1 x'.2.2) [y] := hm.ext hx (fun k _ b => by omega) fun k a b => by
    have := hSn k a
    rcases b with b | b
    · have := h.so k b; omega
    · omega
  have hd : HdC lo hi w0 [y] [q] := by simpa using (HdC.nil lo hi w0).snoc h1 h2 h3 h4
  refine ⟨ho.mono fun k a b => ⟨b, a⟩, fun k a => ?_, fun k a => by have := hSn k a; omega, fun k a => ?_, fun k a => ⟨fun b => ?_, fun b => ?_⟩, fun k a b => ?_, by omega, hd, .inr ⟨hs, x', rfl, ?_, hm', by simp⟩⟩
  · rcases a with ⟨a | a, a'⟩
    · have := h.so k a; omega
    · omega
  · rcases a with a | a
    · have := h.gp k a; omega
    · have := h.sc k a; omega
  · have := hSn k b
    rcases a with ⟨a | a, _⟩
    · have := h.so k a; omega
    · omega
  · rcases a with ⟨a | a, _⟩
    · rcases b with b | b
      · exact (h.d1 k a).2 b
      · exact (h.d1 k a).1 b
    · rcases b with b | b
      · have := h.gp k b; omega
      · have := h.sc k b; omega
  · have := hSn k a
    rcases b with b | b
    · have := h.gp k b; omega
    · have := h.sc k b; omega
  · rcases h.e with ⟨e1, e2, e3⟩ | ⟨L, x, e1, hA, hM, hne⟩
    · subst e1 e2 e3
      rw [if_pos rfl]
      exact Nd.All.nil _ _ _
    · rw [if_neg hne, e1]
      have hR := mine_pg (hM.keep hk) h.hc
      refine ((((hA.keep hk).mono (TC := fun k => Gp k ∨ Sc k) fun k a => .inl a).snoc ((NdPg lo hi w0).mono hR fun k a => .inr a)).ext hx fun k a b => ?_)
      rcases b with b | b
      · rcases a with a | a
        · exact (h.d1 k b).2 a
        · exact (h.d1 k b).1 a
      · rcases a with a | a
        · have := h.gp k a; omega
        · have := h.sc k a; omega
theorem PgS.all (h : PgS lo hi base w0 w v hs ps cur So Sc Gp Lc) : NRow (NdPg lo hi w0) 29 base w.heap.size So (fun k => Gp k ∨ Sc k) w v hs (if cur = [] then ps else ps ++ [cur]) := by
  refine ⟨h.o, ?_, h.so, fun k a => a.elim (h.gp k) (h.sc k), Nat.le_refl _, fun k a b => b.elim (h.d1 k a).2 (h.d1 k a).1, h.b⟩
  rcases h.e with ⟨e1, e2, e3⟩ | ⟨L, x, e1, hA, hM, hne⟩
  · subst e1 e2 e3
    rw [if_pos rfl]
    exact Nd.All.nil _ _ _
  · rw [if_neg hne, e1]
    exact (hA.mono (TC := fun k => Gp k ∨ Sc k) fun k a => .inl a).snoc ((NdPg lo hi w0).mono (mine_pg hM h.hc) fun k a => .inr a)
end
def RS.runW (nm : ByteArray) (l : List CD) (t : RS) : Int × RS :=
  if isR l = false then (70, t) else if (t.create nm).1 ≠ 0 then t.create nm
  else if ((t.create nm).2.write nm 0 (runB l)).1 ≠ 0 then (t.create nm).2.write nm 0 (runB l)
  else ((t.create nm).2.write nm 0 (runB l)).2.sync nm
theorem Tie.runW {s : DS} {t : RS} (h : Tie s t) (hi : s.Inv) (nm : ByteArray) (l : List CD) : Both (s.runW nm l) (t.runW nm l) := by
  have h1 := h.create hi.ok nm
  have i1 := hi.create nm
  have h2 := h1.2.write i1.ok nm 0 (runB l)
  have i2 := i1.write nm 0 (runB l)
  have h3 := h2.2.sync i2.ok nm
  rw [DS.runW, RS.runW]
  split
  · exact ⟨rfl, h⟩
  · rw [h1.1, h2.1]
    split
    · exact h1
    · split
      · exact h2
      · exact h3
theorem parts_sum {all : Nat} : ∀ {k a : Nat} {last : Option (List VAL)} {x : List UInt8} {l : List LEAF}, parts all k a last x = some l → a ≤ all → (∀ q ∈ l, q.1 + q.2.1 ≤ all) ∧ a + (l.map fun q => q.2.1).sum = all ∧ l.length = k
  | 0, a, last, x, l, h, ha => by
    rw [parts] at h; split at h
    · cases h; rename_i e; exact ⟨fun q hq => (by cases hq), by simpa using e.2, rfl⟩
    · cases h
  | k + 1, a, last, x, l, h, ha => by
    cases h1 : pNum 0 0 x with
    | none => rw [parts_1 h1] at h; cases h
    | some z =>
      cases h2 : pText 1048576 z.2 with
      | none => rw [parts_2 h1 h2] at h; cases h
      | some y =>
        cases h3 : pFrom y.1 with
        | none => rw [parts_3 h1 h2 h3] at h; cases h
        | some t =>
          by_cases h4 : all - a < z.1 ∨ badL last t = true
          · rw [parts_4 h1 h2 h3 h4] at h; cases h
          · rw [parts_5 h1 h2 h3 h4] at h
            obtain ⟨l', h5, rfl⟩ := Option.map_eq_some_iff.1 h
            have hz : ¬ all - a < z.1 := fun e => h4 (.inl e)
            have ih := parts_sum h5 Zz
            refine ⟨fun q hq => ?_, by rw [List.map_cons, List.sum_cons]; simp only []; omega, by rw [List.length_cons, ih.2.2]⟩
            rcases List.mem_cons.1 hq with rfl | hq
            · simp only []; omega
            · exact ih.1 q hq
theorem idxP_sum {b : List UInt8} {z : List LEAF × Nat} (h : idxP b = some z) : (∀ q ∈ z.1, q.1 + q.2.1 ≤ b.length) ∧ (z.1.map fun q => q.2.1).sum ≤ b.length := by
  by_cases h1 : b.length < 8
  · rw [idx_a h1] at h; cases h
  · by_cases h2 : (openC (b.drop (b.length - 8))).1 = 0
    · rw [idx_c h1 h2] at h
      generalize (openC (b.drop (b.length - 8))).2 = t at h
      by_cases h3 : b.length - 8 < le4 t
      · rw [idx_d h3] at h; cases h
      · by_cases h4 : (openC ((b.take (b.length - 8 - le4 t + le4 t)).drop (b.length - 8 - le4 t))).1 = 0
        · rw [idx_f h3 h4] at h
          generalize (openC ((b.take (b.length - 8 - le4 t + le4 t)).drop (b.length - 8 - le4 t))).2 = x at h
          cases h5 : pNum 0 0 x with
          | none => rw [idx_g h5] at h; cases h
          | some u =>
            cases h6 : pNum 0 0 u.2 with
            | none => rw [idx_h h5 h6] at h; cases h
            | some y =>
              by_cases h7 : 9223372036854775807 < y.1
              · rw [idx_i h5 h6 h7] at h; cases h
              · rw [idx_j h5 h6 h7] at h
                obtain ⟨l, h8, rfl⟩ := Option.map_eq_some_iff.1 h
                have := parts_sum h8 (Nat.zero_le _)
                exact ⟨fun q hq => by have := this.1 q hq; omega, by have := this.2.1; simp only []; omega⟩
        · rw [idx_e h3 h4] at h; cases h
    · rw [idx_b h1 h2] at h; cases h
theorem ents_just : ∀ {k : Nat} {x : List UInt8} {p : List CD}, ents k x = some p → x = p.flatMap entB ∧ Oks p ∧ ∀ q ∈ p, isT q.1 = true
  | 0, x, p, h => by
    rw [ents] at h; split at h
    · cases h; rename_i e; exact ⟨by rw [e]; rfl, fun q hq => (by cases hq), fun q hq => (by cases hq)⟩
    · cases h
  | k + 1, x, p, h => by
    cases h1 : pCnt x with
    | none => rw [ents_a h1] at h; cases h
    | some y =>
      rw [ents_b h1] at h
      obtain ⟨p', h2, rfl⟩ := Option.map_eq_some_iff.1 h
      obtain ⟨e1, e2, e3, e4⟩ := pCnt_just h1
      obtain ⟨i1, i2, i3⟩ := ents_just h2
      refine ⟨by rw [List.flatMap_cons, entB_T e2, ← i1]; exact e1, fun q hq => ?_, fun q hq => ?_⟩
      · rcases List.mem_cons.1 hq with rfl | hq
        · exact ⟨e4, e3⟩
        · exact i2 q hq
      · rcases List.mem_cons.1 hq with rfl | hq
        · exact e2
        · exact i3 q hq
theorem pgP_fit {b : List UInt8} {t : List VAL} {p : List CD} (h : pgP b t = some p) : Oks p ∧ (p.flatMap entB).length ≤ b.length ∧ (∀ q ∈ p, isT q.1 = true) := by
  by_cases h1 : (openC b).1 = 0
  · have hl := open_len h1
    cases h2 : pNum 0 0 (openC b).2 with
    | none => rw [pg_b h1 h2] at h; cases h
    | some z =>
      rw [pg_c h1 h2] at h
      obtain ⟨p', h3, h4⟩ := Option.bind_eq_some_iff.1 h
      have e := ents_just h3
      split at h4
      · cases h4
        obtain ⟨pre, _, hp⟩ := pNum_suf h2
        have e1 := congrArg List.length hp
        have e2 := congrArg List.length hl.2
        have e3 := congrArg List.length e.1
        rw [List.length_append] at e1
        rw [List.length_take] at e2
        exact ⟨e.2.1, by omega, e.2.2⟩
      · cases h4
  · rw [pg_a h1] at h; cases h
theorem ent_pos {q : CD} (h : isT q.1 = true) : (tupB q.1).length ≤ (entB q).length ∧ 1 ≤ (entB q).length := by
  rw [entB_T h, cntB, List.length_append]
  have : 1 ≤ (tupB q.1).length := by rw [tupB, List.length_cons]; omega
  omega
theorem count_le : ∀ {l : List CD}, (∀ q ∈ l, isT q.1 = true) → l.length ≤ (l.flatMap entB).length
  | [], _ => Nat.le_refl _
  | q :: l, h => by
    have a := (ent_pos (h q List.mem_cons_self)).2
    have b := count_le (l := l) fun x hx => h x (List.mem_cons_of_mem _ hx)
    rw [List.flatMap_cons, List.length_append, List.length_cons]; omega
theorem nrow_cts {tb base m : Nat} {S G : Nat → Prop} {w : World} {v : Value} {L : List CT} {l : List CD} (h : NRow NdCt tb base m S G w v L l) : ∃ A c, v = .slice A l.length c ∧ l.length ≤ c ∧ Sl KCt base w.heap.size w A l.length L ∧ NdCt.All (fun k => base ≤ k ∧ k < w.heap.size) w L l := by
  obtain ⟨A', c', e, hc, hs⟩ := h.rd
  exact ⟨A', c', e, hc, hs.wide (Nat.le_refl _) h.l1, h.d.mono fun k hk => h.g k hk⟩
abbrev PKEY := ByteArray × Int
abbrev encPK (k : PKEY) : Value := .agg #[.string k.1, .int .i64 k.2]
def KPk : Kd PKEY := Kd.plain 2 (fun k => [.string k.1, .int .i64 k.2]) (fun _ => True) (fun _ => rfl) (fun _ u hu => by simp at hu; rcases hu with rfl | rfl <;> rfl)
theorem KPk_flat : Flat KPk := fun h => h
theorem repsPk {w : World} (x : PKEY) : RepsV KPk w [x] [encPK x] := ⟨⟨_, rfl, rfl, trivial⟩, trivial⟩
theorem EPk : ElemInfo Tryz.prog 69 2 24 := ElemInfo.of (z := .agg #[.string ⟨#[]⟩, .int .i64 0]) Zl rfl rfl rfl
theorem EVal1 : ElemInfo Tryz.prog 88 3 32 := ElemInfo.of (z := .agg #[.int .i64 0, .int .i64 0, .string ⟨#[]⟩]) Zl rfl rfl rfl
theorem eqPk_guard : Tryz.prog.eqGuardType Tryz.prog.depth 69 = false := by kernel_rfl
theorem eqPk (a b : PKEY) (w : World) : (Op.equalIn 10000 69 (.agg #[.string a.1, .int .i64 a.2]) (.agg #[.string b.1, .int .i64 b.2])).run Tryz.prog w = .ok (decide (a = b)) w := by
  rw [run_equalIn_struct w 9999 _ _ _ (by simp [Program.fieldsOf, Zu69]) Zl]
  simp only [Program.fieldsOf, Zu69]
  simp [Op.eqFields, part, Zi3, Tryz.isAgg9, run_equalIn_int _ 9998 3 .i64 .i64 _ _ Zu3, run_equalIn_string _ 9998 9 _ _ Tryz.underlying9, str_eq]
  obtain ⟨a1, a2⟩ := a
  obtain ⟨b1, b2⟩ := b
  by_cases h1 : a1 = b1 <;> by_cases h2 : a2 = b2 <;> simp [h1, h2]
theorem getL {α : Type} {l : List α} {n : Nat} (i : Nat) (h : l.length = n) (hi : i < n) : ∃ x, l[i]? = some x := ⟨l[i]'Zz, List.getElem?_eq_getElem Zz⟩
theorem Index_c {lo hi : Nat} {A : Option Addr} {n c : Nat} {xs : List PKEY} (k : PKEY) (w : World) (hs : Sl KPk lo hi w A n xs) : Ret Tryz.prog 85 #[.slice A n c, encPK k] w fun r w' => ∃ i : Int, r = .int .i64 i ∧ ((i = -1 ∧ k ∉ xs) ∨ ∃ j : Nat, i = (j : Int) ∧ j < n ∧ xs[j]? = some k ∧ k ∉ xs.take j) ∧ Keep w w' := by
 have hl := hs.len
 have hb := hs.bound
 refine X.enter Zf85 rfl Tryz.ntmps85 rfl<|Zs<|Zr<|Zc (X.boxE rfl rfl) rfl ?_
 rintro _ w1 ⟨rfl, hB1, hk1, hz1⟩
 refine Zoa rfl rfl<|Ze<|Zs<|Zs<|Zr<|Zoms rfl rfl<|Zo (X.lenSl Zu58 rfl) rfl<|Zom rfl rfl<|Ze<|Zb<|X.loopL (σ := Nat) (fun s => [(0, .slice A n c), (3, .pointer (some ⟨w.heap.size, 0, none⟩)), (7, .int .i64 (n : Int)), (8, .int .i64 (s : Int))]) (fun s w' => s ≤ n ∧ k ∉ xs.take s ∧ Blk w' w.heap.size [.string k.1, .int .i64 k.2] 69 ∧ Keep w w') (fun s => n - s) 0 ⟨rfl, rfl, rfl, rfl, trivial⟩ ⟨Nat.zero_le _, by simp, hB1, hk1⟩ ?_
 rintro i b0 wl ⟨hi, hni, hBl, hk⟩ hback
 have hk' := hk.size
 refine Zs<|Zr<|X.opP X.wN rfl rfl (X.lss rfl rfl) (fun h9 => ?_) (fun h9 => ?_)
 ·obtain ⟨x, hx⟩ := getL i hl Zz
  refine Ze<|Zs<|Zt rfl<|Zk<|Zs<|Zb<|Zs<|Zr<|Zomi rfl rfl<|Zoai rfl rfl<|Ze<|Zs<|X.regionD (fun _ => False) 6 Zl Zl (fun w2 hk2 hz2 => ?_)
  refine ZD 0 rfl Zl (fun w' hk' => X.loadNB Tryz.isAgg69 Zs69 (hBl.keep (hk2.trans hk')) rfl rfl rfl)<|ZDc 1 rfl Zl (Zdms rfl)<|ZDc 2 rfl Zl (Zdmi rfl)<|ZD 3 rfl Zl (fun w' hk' => X.idxS (hs.keep ((hk.trans hk2).trans hk')) Zu58 Zs69 rfl rfl ⟨by omega, by omega⟩)<|ZD 4 rfl Zl (fun w' hk' => X.loadSN Tryz.isAgg69 Zs69 (hs.keep ((hk.trans hk2).trans hk')) hx rfl (fun _ h => h.1) rfl) ?_
  refine X.dTake 5 rfl Zl Zl Zl (X.dwN rfl) (fun w' hk' => X.eqA eqPk_guard rfl rfl (eqPk k x _)) ?_
  refine Zdend Zl<|X.condB rfl (fun hc => ?_) (fun hc => ?_)
  ·have hkx : k = x := by simpa using hc
   refine Zs<|Zr<|Zomi rfl rfl<|Zoai rfl rfl<|Ze<|X.ret1 (v := (.int .i64 _)) Zf85 Tryz.results85 rfl ?_
   exact ⟨_, rfl, .inr ⟨i, rfl, by omega, by rw [hkx]; exact hx, hni⟩, (hk.trans hk2)⟩
  ·have hkx : k ≠ x := by simpa using hc
   refine Zk<|Zi<|Zr<|Zo (X.add rfl rfl (X.w_i64 Zz)) rfl<|Zomi rfl rfl<|Ze ?_
   refine hback (i + 1) _ _ ⟨rfl, rfl, rfl, rfl, trivial⟩ ⟨by omega, by rw [take_at hx]; simp only [List.mem_append, List.mem_singleton]; exact fun h => h.elim hni hkx, (hBl.keep hk2), (hk.trans hk2)⟩ Zz
 ·refine Ze<|Zs<|Zf rfl<|Zx rfl<|Zs<|Zr<|Zoa rfl rfl<|Ze<|X.ret1 (v := (.int .i64 _)) Zf85 Tryz.results85 rfl ?_
  refine ⟨_, rfl, .inl ⟨rfl, ?_⟩, hk⟩
  rw [List.take_of_length_le Zz] at hni; exact hni
theorem CloneK_c {lo hi : Nat} {A : Option Addr} {n c : Nat} {l : List PKEY} (w : World) (hs : Sl KPk lo hi w A n l) (hn : n ≤ 1000000) : Ret Tryz.prog 58 #[.slice A n c] w fun r w' => ∃ A' c', r = .slice A' n c' ∧ n ≤ c' ∧ Mine KPk 69 (fun k => w.heap.size ≤ k ∧ k < w'.heap.size) 0 0 w' (.slice A' n c') l ∧ Keep w w' := by
 have hl := hs.len
 refine X.enter Zf58 rfl Tryz.ntmps58 rfl<|Zs<|Zr<|Zoa rfl rfl<|Ze<|Zs<|Zs<|Zr<|Zoms rfl rfl<|X.opB X.wN rfl rfl (X.eqNil Zu58 rfl rfl) (fun h4 => ?_) (fun h4 => ?_)
 ·refine Ze<|Zt rfl<|Zs<|Zr<|Zoa rfl rfl<|Ze<|X.ret1 Zf58 Tryz.results58 rfl ?_
  have hq : n = 0 := by
    rcases Nat.eq_zero_or_pos n with h | h
    ·exact h
    ·obtain ⟨ad, e, _⟩ := hs.at_ h
     subst e; simp at h4
  subst hq
  have hq : l = [] := List.eq_nil_of_length_eq_zero hl
  subst hq
  exact ⟨none, 0, rfl, Nat.le_refl _, Mine.nil _ _ _ _ _ _, (Keep.refl _)⟩
 ·refine Ze<|Zf rfl<|Zk<|Zs<|Zr<|Zc (X.lit0E (K := KPk) (S := fun k => w.heap.size ≤ k) Zu58 Zs69 zq34) rfl ?_
  rintro v1 w1 ⟨hM1, hk1, hz1⟩
  refine Zoms rfl rfl<|Zc (X.appE (K := KPk) (S := fun k => w.heap.size ≤ k) KPk_flat Zu58 EPk rfl rfl hM1 (hs.keep hk1) zq15 zq34) rfl ?_
  rintro v2 w2 ⟨hM2, hx2⟩
  have hx2' := hx2.size
  refine Zoa rfl rfl<|Ze<|X.ret1 Zf58 Tryz.results58 rfl ?_
  have hMx := hM2
  obtain ⟨A', c', e, hc', _⟩ := hMx.slice
  subst e
  have e2 : ([] ++ l).length = n := by simp [hl]
  rw [e2] at hMx hc'
  exact ⟨A', c', by rw [e2]; rfl, hc', hMx.mono fun k hk h => ⟨h, hk⟩, (hk1.step hx2 zq34)⟩
theorem CloneT_c {lo hi : Nat} {A : Option Addr} {n c : Nat} {l : List VAL} (w : World) (hs : Sl KV lo hi w A n l) (hn : n * 32 ≤ 140737488355328) : Ret Tryz.prog 111 #[.slice A n c] w fun r w' => ∃ A' c', r = .slice A' n c' ∧ n ≤ c' ∧ Mine KV 88 (fun k => w.heap.size ≤ k ∧ k < w'.heap.size) 0 0 w' (.slice A' n c') l ∧ Keep w w' := by
 have hl := hs.len
 refine X.enter Tryz.func111 rfl Tryz.ntmps111 rfl<|Zs<|Zr<|Zoa rfl rfl<|Ze<|Zs<|Zs<|Zr<|Zoms rfl rfl<|X.opB X.wN rfl rfl (X.eqNil Zu90 rfl rfl) (fun h4 => ?_) (fun h4 => ?_)
 ·refine Ze<|Zt rfl<|Zs<|Zr<|Zoa rfl rfl<|Ze<|X.ret1 Tryz.func111 Tryz.results111 rfl ?_
  have hq : n = 0 := by
    rcases Nat.eq_zero_or_pos n with h | h
    ·exact h
    ·obtain ⟨ad, e, _⟩ := hs.at_ h
     subst e; simp at h4
  subst hq
  have hq : l = [] := List.eq_nil_of_length_eq_zero hl
  subst hq
  exact ⟨none, 0, rfl, Nat.le_refl _, Mine.nil _ _ _ _ _ _, (Keep.refl _)⟩
 ·refine Ze<|Zf rfl<|Zk<|Zs<|Zr<|Zc (X.lit0E (K := KV) (S := fun k => w.heap.size ≤ k) Zu90 Zs88 zq34) rfl ?_
  rintro v1 w1 ⟨hM1, hk1, hz1⟩
  refine Zoms rfl rfl<|Zc (X.appE (K := KV) (S := fun k => w.heap.size ≤ k) KV_flat Zu90 EVal1 rfl rfl hM1 (hs.keep hk1) zq15 zq34) rfl ?_
  rintro v2 w2 ⟨hM2, hx2⟩
  have hx2' := hx2.size
  refine Zoa rfl rfl<|Ze<|X.ret1 Tryz.func111 Tryz.results111 rfl ?_
  have hMx := hM2
  obtain ⟨A', c', e, hc', _⟩ := hMx.slice
  subst e
  have e2 : ([] ++ l).length = n := by simp [hl]
  rw [e2] at hMx hc'
  exact ⟨A', c', by rw [e2]; rfl, hc', hMx.mono fun k hk h => ⟨h, hk⟩, (hk1.step hx2 zq34)⟩
end Go.Proofs.YtjjhddjllpihaaaGreatDoor
