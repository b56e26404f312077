/- The walk of the law PackOrder. -/
import Derived.Test.YtaclpphhidlgpaaPackG
import Derived.Test.YtaclpphhidlgpaaPackM
namespace Go.Proofs.Ytaclpphhidlgpaa
open Go Go.Proofs.Ytaclpphhidlgpaa.X
set_option linter.unusedVariables false
set_option linter.unusedSimpArgs false

theorem opens_V {H : Type} {enc : TypeId × Value → H} {W : World} : Opens enc Try.prog W 75 KV := fun fuel cs x h => by
  obtain ⟨y, a, b, e, ⟨ha, oa⟩, p, q, e2, ⟨hb, ob⟩, hq, oq⟩ := opens_struct3 (K := KI) (L := KI) (M := KS) Try.underlying75 (by kernel_rfl) ⟨rfl, by kernel_rfl⟩ ⟨rfl, by kernel_rfl⟩ ⟨rfl, by kernel_rfl⟩ (opens_i64 Try.underlying73) (opens_i64 Try.underlying2) (opens_string Try.underlying9) fuel cs x h
  subst e ha e2 hb hq
  exact ⟨y, rfl, oa, ob, oq⟩
theorem cutT_len (l : List VAL) : (cutT l).length ≤ 9 := by
  rw [cutT, List.length_map, List.length_take]; omega
theorem cutT_ok {lo hi : Nat} {w : World} {A : Option Addr} {n : Nat} {l : List VAL} (h : Sl KV lo hi w A n l) : ∀ v ∈ cutT l, okV v := by
  intro v hv
  obtain ⟨x, hx, rfl⟩ := List.mem_map.1 hv
  obtain ⟨i, hi⟩ := List.mem_iff_getElem?.1 (List.mem_of_mem_take hx)
  exact (cutV_ok (KV_ok h i x hi)).1
theorem isT_all {l : List VAL} (h : isT l = true) : ∀ v ∈ l, isV v = true := by
  simp only [isT, Bool.and_eq_true, List.all_eq_true] at h
  exact h.1
theorem order_law {l m : List VAL} (hl : isT l = true) (hm : isT m = true) (ol : ∀ v ∈ l, okV v) (om : ∀ v ∈ m, okV v) :
    Op.bytesLess (keyB l) (keyB m) = decide (cmpT l m < 0) ∧ decide ((⟨(keyB l).toArray⟩ : ByteArray) = ⟨(keyB m).toArray⟩) = decide (cmpT l m = 0) := by
  obtain ⟨h1, h2⟩ := key_order l m (fun v h => ⟨isT_all hl v h, ol v h⟩) (fun v h => ⟨isT_all hm v h, om v h⟩)
  exact ⟨h1, by rw [decide_eq_decide, bytes_eq]; exact h2⟩
theorem e20 (b : Bool) : (decide ((if b = true then (0 : Int) else 20) = 0) == b) = true := by cases b <;> rfl
theorem n20 {b : Bool} (h : ¬ (if b = true then (0 : Int) else 20) ≠ 0) : b = true := by cases b <;> simp_all
-- f3 "pedigree/pedigreelaw03.PackOrder" params [23, 23] results [4] -> [(ResultVar.tmp 4)] nfree 0 ntmps 69 n
theorem PackOrder_c (w : World) (A1 : Option Addr) (n1 c1 : Nat) (l1 : List VAL) (hc1 : n1 ≤ c1) (s1 : Sl KV 0 w.heap.size w A1 n1 l1) (A2 : Option Addr) (n2 c2 : Nat) (l2 : List VAL) (hc2 : n2 ≤ c2) (s2 : Sl KV 0 w.heap.size w A2 n2 l2) :
    Ret Try.prog 3 #[.slice A1 n1 c1, .slice A2 n2 c2] w fun r w' => r = .bool true ∧ Keep w w' := by
  refine X.enter Try.func3 rfl Try.ntmps3 rfl ?_
  refine X.seq ?_
  refine X.region ?_
  refine X.opw X.wN rfl (X.assign rfl) ?_
  refine X.opsEnd ?_
  refine X.seq ?_
  refine X.region ?_
  refine X.opw X.wN rfl (X.move (v := .slice _ _ _) rfl) ?_
  refine X.opE X.wN rfl (X.callE (cut_c _ s1 (by omega) (by omega)) Try.call10 rfl rfl) ?_
  rintro v1 w1 ⟨hM1, hk1⟩
  have hk1' := hk1.size
  refine X.opw X.wN rfl (X.move (v := .slice _ _ _) rfl) ?_
  refine X.opE X.wN rfl (X.callE (cut_c _ (s2.keep hk1) (by omega) (by omega)) Try.call10 rfl rfl) ?_
  rintro v2 w2 ⟨hM2, hk2⟩
  have hk2' := hk2.size
  refine X.opw X.wN rfl (X.assign rfl) ?_
  refine X.opw X.wN rfl (X.assign rfl) ?_
  refine X.opsEnd ?_
  refine X.seq ?_
  refine X.region ?_
  refine X.opw X.wN rfl (X.move rfl) ?_
  obtain ⟨A4, c4, rfl, hc4, hs4⟩ := (hM1.keep hk2).slF KV_flat 0 (fun _ _ => Nat.zero_le _)
  refine X.opE X.wN rfl (X.callE (Key_c _ hs4 (by omega)) Try.call11 rfl rfl) ?_
  rintro _ w3 ⟨v3, rfl, hM3, hk3⟩
  have hk3' := hk3.size
  refine X.opw X.wN rfl (X.move rfl) ?_
  refine X.opw X.wN rfl (X.extr rfl rfl) ?_
  refine X.opw X.wN rfl (X.extr rfl rfl) ?_
  refine X.opw X.wN rfl (X.assign rfl) ?_
  refine X.opw X.wN rfl (X.assign (v := .int .i64 _) rfl) ?_
  refine X.opsEnd ?_
  refine X.seq ?_
  refine X.region ?_
  refine X.opw X.wN rfl (X.move rfl) ?_
  obtain ⟨A6, c6, rfl, hc6, hs6⟩ := (hM2.keep hk3).slF KV_flat 0 (fun _ _ => Nat.zero_le _)
  refine X.opE X.wN rfl (X.callE (Key_c _ hs6 (by omega)) Try.call11 rfl rfl) ?_
  rintro _ w5 ⟨v5, rfl, hM5, hk5⟩
  have hk5' := hk5.size
  refine X.opw X.wN rfl (X.move rfl) ?_
  refine X.opw X.wN rfl (X.extr rfl rfl) ?_
  refine X.opw X.wN rfl (X.extr rfl rfl) ?_
  refine X.opw X.wN rfl (X.assign rfl) ?_
  refine X.opw X.wN rfl (X.assign (v := .int .i64 _) rfl) ?_
  refine X.opsEnd ?_
  refine X.seq ?_
  refine X.seq ?_
  refine X.region ?_
  refine X.opw X.wN rfl (X.move (v := .int .i64 _) rfl) ?_
  refine X.opP X.wN rfl rfl (X.neI rfl rfl) (fun h25 => ?_) (fun h25 => ?_)
  · refine X.opw X.wN rfl (X.move (v := .bool true) rfl) ?_
    refine X.opS rfl rfl rfl rfl rfl ?_
    refine X.opS rfl rfl rfl rfl rfl ?_
    refine X.opw X.wN rfl (X.pickT (v := .bool true) rfl rfl) ?_
    refine X.opsEnd ?_
    refine X.condT rfl ?_
    refine X.seq ?_
    refine X.region ?_
    refine X.opw X.wN rfl (X.move (v := .int .i64 _) rfl) ?_
    refine X.opw X.wN rfl (X.eqI rfl rfl) ?_
    refine X.opw X.wN rfl (X.move rfl) ?_
    refine X.opE X.wN rfl (X.callE (R03Is_c _ (hs4.keep (hk3.trans hk5))) Try.call12 rfl rfl) ?_
    rintro _ w7 ⟨rfl, hk7⟩
    have hk7' := hk7.size
    refine X.opB X.wN rfl rfl (X.eqB Try.underlying4 rfl rfl) (fun h34 => ?_) (fun h34 => ?_)
    · refine X.opw X.wN rfl (X.move (v := .bool true) rfl) ?_
      refine X.opw (X.wG rfl rfl rfl) rfl (X.move (v := .int .i64 _) rfl) ?_
      refine X.opw (X.wG rfl rfl rfl) rfl (X.eqI rfl rfl) ?_
      refine X.opw (X.wG rfl rfl rfl) rfl (X.move rfl) ?_
      refine X.opE (X.wG rfl rfl rfl) rfl (X.callE (R03Is_c _ (hs6.keep (hk5.trans hk7))) Try.call12 rfl rfl) ?_
      rintro _ w8 ⟨rfl, hk8⟩
      have hk8' := hk8.size
      refine X.opB (X.wG rfl rfl rfl) rfl rfl (X.eqB Try.underlying4 rfl rfl) (fun h40 => ?_) (fun h40 => ?_)
      · refine X.opw X.wN rfl (X.pickT (v := .bool true) rfl rfl) ?_
        refine X.opw X.wN rfl (X.move (v := .bool true) rfl) ?_
        refine X.opE (X.wG rfl rfl rfl) rfl (X.callE (alive_c _) Try.call13 rfl rfl) ?_
        rintro _ w9 ⟨rfl, hk9⟩
        have hk9' := hk9.size
        refine X.opw X.wN rfl (X.pickT (v := .bool _) rfl rfl) ?_
        refine X.opw X.wN rfl (X.assign (v := .bool _) rfl) ?_
        refine X.opsEnd ?_
        refine X.ret1 (v := (.bool _)) Try.func3 Try.results3 rfl ?_
        exact ⟨rfl, ((((((hk1.trans hk2).trans hk3).trans hk5).trans hk7).trans hk8).trans hk9)⟩
      · rw [e20] at h40; cases h40
    · rw [e20] at h34; cases h34
  · refine X.opw X.wN rfl (X.move (v := .bool false) rfl) ?_
    refine X.opw (X.wG rfl rfl rfl) rfl (X.move (v := .int .i64 _) rfl) ?_
    refine X.opP (X.wG rfl rfl rfl) rfl rfl (X.neI rfl rfl) (fun h28 => ?_) (fun h28 => ?_)
    · refine X.opw X.wN rfl (X.pickF (v := .bool true) rfl rfl) ?_
      refine X.opsEnd ?_
      refine X.condT rfl ?_
      refine X.seq ?_
      refine X.region ?_
      refine X.opw X.wN rfl (X.move (v := .int .i64 _) rfl) ?_
      refine X.opw X.wN rfl (X.eqI rfl rfl) ?_
      refine X.opw X.wN rfl (X.move rfl) ?_
      refine X.opE X.wN rfl (X.callE (R03Is_c _ (hs4.keep (hk3.trans hk5))) Try.call12 rfl rfl) ?_
      rintro _ w10 ⟨rfl, hk10⟩
      have hk10' := hk10.size
      refine X.opB X.wN rfl rfl (X.eqB Try.underlying4 rfl rfl) (fun h34 => ?_) (fun h34 => ?_)
      · refine X.opw X.wN rfl (X.move (v := .bool true) rfl) ?_
        refine X.opw (X.wG rfl rfl rfl) rfl (X.move (v := .int .i64 _) rfl) ?_
        refine X.opw (X.wG rfl rfl rfl) rfl (X.eqI rfl rfl) ?_
        refine X.opw (X.wG rfl rfl rfl) rfl (X.move rfl) ?_
        refine X.opE (X.wG rfl rfl rfl) rfl (X.callE (R03Is_c _ (hs6.keep (hk5.trans hk10))) Try.call12 rfl rfl) ?_
        rintro _ w11 ⟨rfl, hk11⟩
        have hk11' := hk11.size
        refine X.opB (X.wG rfl rfl rfl) rfl rfl (X.eqB Try.underlying4 rfl rfl) (fun h40 => ?_) (fun h40 => ?_)
        · refine X.opw X.wN rfl (X.pickT (v := .bool true) rfl rfl) ?_
          refine X.opw X.wN rfl (X.move (v := .bool true) rfl) ?_
          refine X.opE (X.wG rfl rfl rfl) rfl (X.callE (alive_c _) Try.call13 rfl rfl) ?_
          rintro _ w12 ⟨rfl, hk12⟩
          have hk12' := hk12.size
          refine X.opw X.wN rfl (X.pickT (v := .bool _) rfl rfl) ?_
          refine X.opw X.wN rfl (X.assign (v := .bool _) rfl) ?_
          refine X.opsEnd ?_
          refine X.ret1 (v := (.bool _)) Try.func3 Try.results3 rfl ?_
          exact ⟨rfl, ((((((hk1.trans hk2).trans hk3).trans hk5).trans hk10).trans hk11).trans hk12)⟩
        · rw [e20] at h40; cases h40
      · rw [e20] at h34; cases h34
    · have hT1 := n20 h25
      have hT2 := n20 h28
      obtain ⟨ho1, ho2⟩ := order_law hT1 hT2 (cutT_ok s1) (cutT_ok s2)
      rw [if_pos hT1] at hM3
      rw [if_pos hT2] at hM5
      refine X.opw X.wN rfl (X.pickF (v := .bool false) rfl rfl) ?_
      refine X.opsEnd ?_
      refine X.condF rfl ?_
      refine X.skip ?_
      refine X.seq ?_
      refine X.region ?_
      refine X.opw X.wN rfl (X.move rfl) ?_
      refine X.opw X.wN rfl (X.move rfl) ?_
      refine X.opE X.wN rfl (X.callE (R03Compare_c _ (hs4.keep (hk3.trans hk5)) (hs6.keep hk5) (by omega) (by omega)) Try.call14 rfl rfl) ?_
      rintro _ w13 ⟨rfl, hk13⟩
      have hk13' := hk13.size
      refine X.opw X.wN rfl (X.assign (v := .int .i64 _) rfl) ?_
      refine X.opsEnd ?_
      refine X.seq ?_
      refine X.region ?_
      refine X.opw X.wN rfl (X.move rfl) ?_
      obtain ⟨A14, c14, rfl, hc14, hs14⟩ := (hM3.keep (hk5.trans hk13)).slF KB_flat 0 (fun _ _ => Nat.zero_le _)
      refine X.opw X.wN rfl (X.str Try.underlying25 Try.underlying5 Try.underlying9 rfl KB_is rfl hs14) ?_
      refine X.opw X.wN rfl (X.move rfl) ?_
      obtain ⟨A15, c15, rfl, hc15, hs15⟩ := (hM5.keep hk13).slF KB_flat 0 (fun _ _ => Nat.zero_le _)
      refine X.opw X.wN rfl (X.str Try.underlying25 Try.underlying5 Try.underlying9 rfl KB_is rfl hs15) ?_
      refine X.opw X.wN rfl (X.ltD rfl rfl) ?_
      refine X.opw X.wN rfl (X.move (v := .int .i64 _) rfl) ?_
      refine X.opw X.wN rfl (X.lss rfl rfl) ?_
      refine X.opB X.wN rfl rfl (X.eqB Try.underlying4 rfl rfl) (fun h55 => ?_) (fun h55 => ?_)
      · refine X.opw X.wN rfl (X.move (v := .bool true) rfl) ?_
        refine X.opw (X.wG rfl rfl rfl) rfl (X.move rfl) ?_
        refine X.opw (X.wG rfl rfl rfl) rfl (X.str Try.underlying25 Try.underlying5 Try.underlying9 rfl KB_is rfl hs14) ?_
        refine X.opw (X.wG rfl rfl rfl) rfl (X.move rfl) ?_
        refine X.opw (X.wG rfl rfl rfl) rfl (X.str Try.underlying25 Try.underlying5 Try.underlying9 rfl KB_is rfl hs15) ?_
        refine X.opw (X.wG rfl rfl rfl) rfl (X.eqD rfl rfl) ?_
        refine X.opw (X.wG rfl rfl rfl) rfl (X.move (v := .int .i64 _) rfl) ?_
        refine X.opw (X.wG rfl rfl rfl) rfl (X.eqI rfl rfl) ?_
        refine X.opB (X.wG rfl rfl rfl) rfl rfl (X.eqB Try.underlying4 rfl rfl) (fun h64 => ?_) (fun h64 => ?_)
        · refine X.opw X.wN rfl (X.pickT (v := .bool true) rfl rfl) ?_
          refine X.opw X.wN rfl (X.move (v := .bool true) rfl) ?_
          refine X.opE (X.wG rfl rfl rfl) rfl (X.callE (alive_c _) Try.call13 rfl rfl) ?_
          rintro _ w16 ⟨rfl, hk16⟩
          have hk16' := hk16.size
          refine X.opw X.wN rfl (X.pickT (v := .bool _) rfl rfl) ?_
          refine X.opw X.wN rfl (X.assign (v := .bool _) rfl) ?_
          refine X.opsEnd ?_
          refine X.ret1 (v := (.bool _)) Try.func3 Try.results3 rfl ?_
          exact ⟨rfl, (((((hk1.trans hk2).trans hk3).trans hk5).trans hk13).trans hk16)⟩
        · rw [ho2] at h64; simp at h64
      · simp [ho1] at h55
end Go.Proofs.Ytaclpphhidlgpaa
