/- Texts that the proof of MergeOrder stands on, part 10. -/
import Derived.Deep.Slices
import Derived.Deep.Strs
import Derived.ProofKit
import Derived.OpenShut
import Derived.ShutString
import Derived.ChangeOld
import Derived.SizedLaws
import Derived.KernelRfl
import Derived.Test.YtgfficbkajcdpaaProg
import Derived.Test.YtgfficbkajcdpaaBunMergeOrder9

namespace Go.Proofs.Ytgfficbkajcdpaa.X
open Go

/-- Type t is read as data of the kind K. -/
def Opens {H : Type} (enc : TypeId × Value → H) (P : Program) (W : World) {α : Type} (t : TypeId) (K : Kd α) : Prop :=
  ∀ fuel cs x, DataW.trod enc P W 0 (fun _ => true) true fuel t cs = some x → ∃ y, K.R 0 W.heap.size W y cs

def KN (k : IntKind) : Kd Int := Kd.plain 1 (fun n => [.int k n]) (fun n => (Lit.int k n).wf = true) (fun _ => rfl) (fun _ u hu => by simp at hu; subst hu; rfl)
def KS : Kd ByteArray := Kd.plain 1 (fun s => [.string s]) (fun s => s.size ≤ 9223372036854775807) (fun _ => rfl) (fun _ u hu => by simp at hu; subst hu; rfl)
def KBo : Kd Bool := Kd.plain 1 (fun s => [.bool s]) (fun _ => True) (fun _ => rfl) (fun _ u hu => by simp at hu; subst hu; rfl)
theorem KN_flat (k : IntKind) : Flat (KN k) := fun h => h
theorem KS_flat : Flat KS := fun h => h
theorem KBo_flat : Flat KBo := fun h => h

section
variable {H : Type} {enc : TypeId × Value → H} {P : Program} {W : World}
theorem opens_int {t : TypeId} {k : IntKind} (ht : P.underlying t = some (.int k)) : Opens enc P W t (KN k) := fun fuel cs x h => by
  obtain ⟨n, rfl, _, hw⟩ := DataW.trod_int ht h
  exact ⟨n, rfl, hw⟩
theorem opens_u8 {t : TypeId} (ht : P.underlying t = some (.int .u8)) : Opens enc P W t KB := fun fuel cs x h => by
  obtain ⟨n, rfl, _, hw⟩ := DataW.trod_int ht h
  simp only [Lit.wf, Bool.and_eq_true, decide_eq_true_eq] at hw
  have h0 : IntKind.u8.min = 0 := rfl
  have h1 : IntKind.u8.max = 255 := rfl
  refine ⟨UInt8.ofNat n.toNat, ?_, trivial⟩
  have : ((UInt8.ofNat n.toNat).toNat : Int) = n := by
    rw [UInt8.toNat_ofNat']
    omega
  show [Value.int IntKind.u8 n] = [Value.int IntKind.u8 ((UInt8.ofNat n.toNat).toNat : Int)]
  rw [this]
theorem opens_i64 {t : TypeId} (ht : P.underlying t = some (.int .i64)) : Opens enc P W t KI := fun fuel cs x h => by
  obtain ⟨n, rfl, _, hw⟩ := DataW.trod_int ht h
  simp only [Lit.wf, Bool.and_eq_true, decide_eq_true_eq] at hw
  have h0 : IntKind.i64.min = -9223372036854775808 := rfl
  have h1 : IntKind.i64.max = 9223372036854775807 := rfl
  exact ⟨n, rfl, by omega⟩
theorem opens_string {t : TypeId} (ht : P.underlying t = some .string) : Opens enc P W t KS := fun fuel cs x h => by
  obtain ⟨s, rfl, _, hw⟩ := DataW.trod_string ht h
  exact ⟨s, rfl, by simpa [maxLen] using hw⟩
theorem opens_bool {t : TypeId} (ht : P.underlying t = some .bool) : Opens enc P W t KBo := fun fuel cs x h => by
  obtain ⟨s, rfl, _⟩ := DataW.trod_bool ht h
  exact ⟨s, rfl, trivial⟩
theorem opens_slice {t e : TypeId} {α : Type} {K : Kd α} (ht : P.underlying t = some (.slice e)) (he : P.cellsOf e = K.sz) (h0 : 0 < K.sz) (hK : Opens enc P W e K) : Opens enc P W t (Kd.slice K) := fun fuel cs x h => by
  rcases Go.Deep.open_slice ht h with ⟨rfl, _⟩ | ⟨a, len, cap, m, n, D, Pl, rfl, _, hl, hm, hmm, _, hq⟩
  · exact ⟨[], none, 0, 0, rfl, Nat.le_refl _, Sl.nil K _ _ _ _⟩
  · simp only [if_true] at hmm
    subst hmm
    have key : ∀ i, i < len → ∃ y cs', K.R 0 W.heap.size W y cs' ∧ W.cells? 0 (a.add (i * K.sz)) K.sz = some cs' := fun i hi => by
      obtain ⟨cs', h1, h2⟩ := hq i (by omega)
      obtain ⟨y, hy⟩ := hK _ _ _ h2
      rw [he] at h1
      exact ⟨y, cs', hy, h1⟩
    have hlist : ∀ q, q ≤ len → ∃ ys : List α, ys.length = q ∧ ∀ j y, ys[j]? = some y → ∃ cs', K.R 0 W.heap.size W y cs' ∧ W.cells? 0 (a.add (j * K.sz)) K.sz = some cs' := by
      intro q
      induction q with
      | zero => intro _; exact ⟨[], rfl, fun j y hy => by simp at hy⟩
      | succ q ih =>
        intro hq'
        obtain ⟨ys, hy1, hy2⟩ := ih (by omega)
        obtain ⟨y, cs', h1, h2⟩ := key q (by omega)
        refine ⟨ys ++ [y], by simp [hy1], fun j z hz => ?_⟩
        rcases Nat.lt_or_ge j ys.length with hj | hj
        · rw [List.getElem?_append_left hj] at hz
          exact hy2 j z hz
        · rw [List.getElem?_append_right hj] at hz
          have : j - ys.length = 0 := by
            have := (List.getElem?_eq_some_iff.1 hz).1
            simpa using this
          rw [this] at hz
          simp at hz
          subst hz
          have : j = q := by omega
          subst this
          exact ⟨cs', h1, h2⟩
    obtain ⟨ys, hy1, hy2⟩ := hlist len (Nat.le_refl _)
    have hb : len ≤ 9223372036854775807 := by simp only [maxLen] at hm; omega
    refine ⟨ys, some a, len, _, rfl, hl, hy1, hb, fun hn => ⟨a, rfl, Nat.zero_le _, ?_, fun j y hy => ?_⟩⟩
    · obtain ⟨_, cs', _, h2⟩ := key 0 hn
      have := World.cells?_block h2 h0
      rwa [add_block] at this
    · obtain ⟨cs', h1, h2⟩ := hy2 j y hy
      refine ⟨cs', h1, fun i u hu => ?_⟩
      obtain ⟨_, h3, h4⟩ := World.cells?_some h2
      have := h4 i (by rw [← h3]; exact (List.getElem?_eq_some_iff.1 hu).1)
      rw [add_add] at this
      rw [this, hu]
/-- A struct of two fields, of three. -/
theorem opens_struct2 {t : TypeId} {f0 f1 : Field} {α β : Type} {K : Kd α} {L : Kd β} (ht : P.underlying t = some (.struct #[f0, f1])) (hc : P.cellsOf t = K.sz + L.sz) (h0 : f0.offset = 0 ∧ P.cellsOf f0.type = K.sz) (h1 : f1.offset = K.sz ∧ P.cellsOf f1.type = L.sz)
    (hK : Opens enc P W f0.type K) (hL : Opens enc P W f1.type L) : Opens enc P W t (Kd.pair K L) := fun fuel cs x h => by
  obtain ⟨y0, y1, n, _, hl, h2, h3⟩ := Go.ChangeShapes.trod_struct2 ht h
  obtain ⟨a, ha⟩ := hK _ _ _ h2
  obtain ⟨b, hb⟩ := hL _ _ _ h3
  refine ⟨(a, b), _, _, ?_, ha, hb⟩
  rw [h0.1, h0.2, h1.1, h1.2, List.drop_zero]
  rw [hc] at hl
  rw [List.take_of_length_le (l := cs.drop K.sz) (by simp; omega), List.take_append_drop]
theorem opens_struct3 {t : TypeId} {f0 f1 f2 : Field} {α β γ : Type} {K : Kd α} {L : Kd β} {M : Kd γ} (ht : P.underlying t = some (.struct #[f0, f1, f2])) (hc : P.cellsOf t = K.sz + (L.sz + M.sz)) (h0 : f0.offset = 0 ∧ P.cellsOf f0.type = K.sz) (h1 : f1.offset = K.sz ∧ P.cellsOf f1.type = L.sz) (h2 : f2.offset = K.sz + L.sz ∧ P.cellsOf f2.type = M.sz)
    (hK : Opens enc P W f0.type K) (hL : Opens enc P W f1.type L) (hM : Opens enc P W f2.type M) : Opens enc P W t (Kd.pair K (Kd.pair L M)) := fun fuel cs x h => by
  obtain ⟨y0, y1, y2, n, _, hl, h3, h4, h5⟩ := Go.Deep.trod_struct3 ht h
  obtain ⟨a, ha⟩ := hK _ _ _ h3
  obtain ⟨b, hb⟩ := hL _ _ _ h4
  obtain ⟨c, hcc⟩ := hM _ _ _ h5
  refine ⟨(a, b, c), _, _, ?_, ha, _, _, rfl, hb, hcc⟩
  rw [h0.1, h0.2, h1.1, h1.2, h2.1, h2.2, List.drop_zero]
  rw [hc] at hl
  rw [List.take_of_length_le (l := cs.drop (K.sz + L.sz)) (by simp; omega), ← List.drop_drop, List.take_append_drop, List.take_append_drop]
end
end Go.Proofs.Ytgfficbkajcdpaa.X

namespace Go.Proofs.Ytgfficbkajcdpaa
open Go Go.Proofs.Ytgfficbkajcdpaa.X
set_option linter.unusedVariables false
set_option linter.unusedSimpArgs false
theorem rest_b {B : Nat} {T : Nat → Prop} {p : Value} {xs : List TH} (w : World) (h : Cur Try.prog evT (0, 0) NX B T p xs w) (hB : B ≤ w.heap.size) (hTb : ∀ k, T k → k < w.heap.size) (hxl : xs.length < 2000) : Ret Try.prog 15 #[.iface 84 p] w fun r w' => ∃ v, r = .tuple #[v, .bool true] ∧ Mine KTh 29 (fun k => w.heap.size ≤ k ∧ k < w'.heap.size) 0 0 w' v xs ∧ Ext T w w' :=
  (rest_c w h hB hTb hxl).mono fun r w' ⟨v, h1, h2, h3⟩ => ⟨v, h1, h2.mono fun k hk hs => ⟨hs, hk⟩, h3⟩
theorem heldL_len (t : Bool) : ∀ xs ys, (heldL t xs ys).length ≤ xs.length
  | [], _ => Nat.le_refl _
  | x :: xs, ys => by
    have := heldL_len t xs (skipT x ys)
    rw [heldL]; split
    · simp; omega
    · simp; omega
theorem sl_things {lo hi : Nat} {w : World} {A : Option Addr} {n : Nat} {l : List TH} (h : Sl (Kd.pair (KN .i8) KI) lo hi w A n l) : Sl KTh lo hi w A n l := by
  refine ⟨h.len, h.bound, fun hn => ?_⟩
  obtain ⟨ad, e, h1, h2, hc⟩ := h.at_ hn
  refine ⟨ad, e, h1, h2, fun j x hx => ?_⟩
  obtain ⟨cs, ⟨a, b, rfl, ⟨rfl, _⟩, ⟨rfl, _⟩⟩, hq⟩ := hc j x hx
  exact ⟨_, ⟨rfl, trivial⟩, hq⟩
theorem take_lt (l : List TH) : (l.take 30).length < 2000 := by rw [List.length_take]; omega
-- f6 "pedigree/pedigreelaw09.MergeHolds" params [24, 24] results [4] -> [(ResultVar.tmp 4)] nfree 0 ntmps 52 
set_option maxHeartbeats 4000000 in
set_option maxRecDepth 100000 in
theorem MergeHolds_c (w : World) (A1 : Option Addr) (n1 c1 : Nat) (l1 : List TH) (hc1 : n1 ≤ c1) (s1 : Sl (Kd.pair (KN .i8) KI) 0 w.heap.size w A1 n1 l1) (A2 : Option Addr) (n2 c2 : Nat) (l2 : List TH) (hc2 : n2 ≤ c2) (s2 : Sl (Kd.pair (KN .i8) KI) 0 w.heap.size w A2 n2 l2) :
    Ret Try.prog 6 #[.slice A1 n1 c1, .slice A2 n2 c2] w fun r w' => r = .bool true ∧ Keep w w' := by
  have hs1 := sl_things s1
  have hs2 := sl_things s2
  refine X.enter Try.func6 rfl Try.ntmps6 rfl ?_
  refine X.seq ?_
  refine X.region ?_
  refine X.opw X.wN rfl (X.assign rfl) ?_
  refine X.opsEnd ?_
  refine X.seq ?_
  refine X.region ?_
  refine X.opw X.wN rfl (X.move (v := .slice _ _ _) rfl) ?_
  refine X.opE X.wN rfl (X.callE (short_c _ hs1 (by omega)) Try.call19 rfl rfl) ?_
  rintro _ w1 ⟨m1, rfl, hmc1, hm31, hs1, hk1⟩
  have hk1' := hk1.size
  refine X.opw X.wN rfl (X.move (v := .slice _ _ _) rfl) ?_
  refine X.opE X.wN rfl (X.callE (short_c _ (hs2.keep hk1) (by omega)) Try.call19 rfl rfl) ?_
  rintro _ w2 ⟨m2, rfl, hmc2, hm32, hs2, hk2⟩
  have hk2' := hk2.size
  refine X.opw X.wN rfl (X.assign (v := .slice _ _ _) rfl) ?_
  refine X.opw X.wN rfl (X.assign (v := .slice _ _ _) rfl) ?_
  refine X.opsEnd ?_
  refine X.seq ?_
  refine X.region ?_
  refine X.opw X.wN rfl (X.move (v := .slice _ _ _) rfl) ?_
  refine X.opE X.wN rfl (X.callE (Of_c w.heap.size _ (hs1.keep hk2) (by omega) (by omega)) Try.call20 rfl rfl) ?_
  rintro _ w3 ⟨bm3, rfl, hC3, hk3⟩
  have hk3' := hk3.size
  refine X.opw X.wN rfl (X.move (v := .slice _ _ _) rfl) ?_
  refine X.opE X.wN rfl (X.callE (Of_c w.heap.size _ (hs2.keep hk3) (by omega) (by omega)) Try.call20 rfl rfl) ?_
  rintro _ w4 ⟨bm4, rfl, hC4, hk4⟩
  have hk4' := hk4.size
  refine X.opE X.wN rfl (X.callE (Both_c _ (hC3.keep hk4) hC4 (by omega) (by omega) (by omega) (by omega) (by omega) cmpOk17) Try.call28 rfl rfl) ?_
  rintro _ w5 ⟨⟨p5, rfl⟩, hC5, hk5⟩
  have hk5' := hk5.size
  refine X.opE X.wN rfl (X.callE (rest_b _ (CV.cur hC5) (by omega) (fun k hk => by (try simp only [] at *); omega) (Nat.lt_of_le_of_lt (heldL_len _ _ _) (take_lt _))) Try.call15 rfl rfl) ?_
  rintro _ w6 ⟨v6, rfl, hM6, hx6⟩
  have hx6' := hx6.size
  refine X.opw X.wN rfl (X.move rfl) ?_
  refine X.opw X.wN rfl (X.extr rfl rfl) ?_
  refine X.opw X.wN rfl (X.extr rfl rfl) ?_
  refine X.opw X.wN rfl (X.assign rfl) ?_
  refine X.opw X.wN rfl (X.assign (v := .bool _) rfl) ?_
  refine X.opsEnd ?_
  refine X.seq ?_
  refine X.region ?_
  refine X.opw X.wN rfl (X.move (v := .slice _ _ _) rfl) ?_
  refine X.opE X.wN rfl (X.callE (Of_c w.heap.size _ ((hs1.keep (((hk2.trans hk3).trans hk4).trans hk5)).ext hx6 (by intros; (try simp only []); omega)) (by omega) (by omega)) Try.call20 rfl rfl) ?_
  rintro _ w7 ⟨bm7, rfl, hC7, hk7⟩
  have hk7' := hk7.size
  refine X.opw X.wN rfl (X.move (v := .slice _ _ _) rfl) ?_
  refine X.opE X.wN rfl (X.callE (Of_c w.heap.size _ (((hs2.keep ((hk3.trans hk4).trans hk5)).ext hx6 (by intros; (try simp only []); omega)).keep hk7) (by omega) (by omega)) Try.call20 rfl rfl) ?_
  rintro _ w8 ⟨bm8, rfl, hC8, hk8⟩
  have hk8' := hk8.size
  refine X.opE X.wN rfl (X.callE (Less_c _ (hC7.keep hk8) hC8 (by omega) (by omega) (by omega) (by omega) (by omega) cmpOk17) Try.call29 rfl rfl) ?_
  rintro _ w9 ⟨⟨p9, rfl⟩, hC9, hk9⟩
  have hk9' := hk9.size
  refine X.opE X.wN rfl (X.callE (rest_b _ (CV.cur hC9) (by omega) (fun k hk => by (try simp only [] at *); omega) (Nat.lt_of_le_of_lt (heldL_len _ _ _) (take_lt _))) Try.call15 rfl rfl) ?_
  rintro _ w10 ⟨v10, rfl, hM10, hx10⟩
  have hx10' := hx10.size
  refine X.opw X.wN rfl (X.move rfl) ?_
  refine X.opw X.wN rfl (X.extr rfl rfl) ?_
  refine X.opw X.wN rfl (X.extr rfl rfl) ?_
  refine X.opw X.wN rfl (X.assign rfl) ?_
  refine X.opw X.wN rfl (X.assign (v := .bool _) rfl) ?_
  refine X.opsEnd ?_
  refine X.seq ?_
  refine X.region ?_
  refine X.opw X.wN rfl (X.move (v := .bool true) rfl) ?_
  refine X.opw X.wN rfl (X.move (v := .bool true) rfl) ?_
  refine X.opw (X.wG rfl rfl rfl) rfl (X.move (v := .bool true) rfl) ?_
  refine X.opw X.wN rfl (X.pickT (v := .bool true) rfl rfl) ?_
  refine X.opw X.wN rfl (X.move (v := .bool true) rfl) ?_
  refine X.opw (X.wG rfl rfl rfl) rfl (X.move rfl) ?_
  refine X.opw (X.wG rfl rfl rfl) rfl (X.move (v := .slice _ _ _) rfl) ?_
  refine X.opw (X.wG rfl rfl rfl) rfl (X.move (v := .slice _ _ _) rfl) ?_
  refine X.opE (X.wG rfl rfl rfl) rfl (X.callE ((RHeld_c true _ ((((hs1.keep (((hk2.trans hk3).trans hk4).trans hk5)).ext hx6 (by intros; (try simp only []); omega)).keep ((hk7.trans hk8).trans hk9)).ext hx10 (by intros; (try simp only []); omega)) ((((hs2.keep ((hk3.trans hk4).trans hk5)).ext hx6 (by intros; (try simp only []); omega)).keep ((hk7.trans hk8).trans hk9)).ext hx10 (by intros; (try simp only []); omega)) (by omega)).mono fun _ _ h => fresh_t h) Try.call30 rfl rfl) ?_
  rintro _ w11 ⟨A11, c11, rfl, hc11, hs11, hk11⟩
  have hk11' := hk11.size
  have q13 := (((hM6.keep ((hk7.trans hk8).trans hk9)).ext hx10 (by intros; (try simp only []); omega) (by intros; (try simp only []); omega)).keep hk11).slF KTh_flat 0 (fun _ _ => Nat.zero_le _)
  obtain ⟨A13, c13, rfl, hc13, hs13⟩ := q13
  refine X.opE (X.wG rfl rfl rfl) rfl (X.callE (Same_c _ hs13 hs11) Try.call22 rfl rfl) ?_
  rintro _ w12 ⟨rfl, hk12⟩
  have hk12' := hk12.size
  refine X.opw X.wN rfl (X.pickT (v := .bool _) rfl rfl) ?_
  refine X.opw X.wN rfl (X.move (v := .bool _) rfl) ?_
  refine X.forkO 42 rfl (fun h42 => ?_) (fun h42 => ?_)
  · refine X.opw (X.wG rfl rfl rfl) rfl (X.move rfl) ?_
    refine X.opw (X.wG rfl rfl rfl) rfl (X.move (v := .slice _ _ _) rfl) ?_
    refine X.opw (X.wG rfl rfl rfl) rfl (X.move (v := .slice _ _ _) rfl) ?_
    refine X.opE (X.wG rfl rfl rfl) rfl (X.callE ((RHeld_c false _ (((((hs1.keep (((hk2.trans hk3).trans hk4).trans hk5)).ext hx6 (by intros; (try simp only []); omega)).keep ((hk7.trans hk8).trans hk9)).ext hx10 (by intros; (try simp only []); omega)).keep (hk11.trans hk12)) (((((hs2.keep ((hk3.trans hk4).trans hk5)).ext hx6 (by intros; (try simp only []); omega)).keep ((hk7.trans hk8).trans hk9)).ext hx10 (by intros; (try simp only []); omega)).keep (hk11.trans hk12)) (by omega)).mono fun _ _ h => fresh_t h) Try.call30 rfl rfl) ?_
    rintro _ w14 ⟨A14, c14, rfl, hc14, hs14, hk14⟩
    have hk14' := hk14.size
    have q16 := (hM10.keep ((hk11.trans hk12).trans hk14)).slF KTh_flat 0 (fun _ _ => Nat.zero_le _)
    obtain ⟨A16, c16, rfl, hc16, hs16⟩ := q16
    refine X.opE (X.wG rfl rfl rfl) rfl (X.callE (Same_c _ hs16 hs14) Try.call22 rfl rfl) ?_
    rintro _ w15 ⟨rfl, hk15⟩
    have hk15' := hk15.size
    refine X.opw X.wN rfl (X.pickT (v := .bool _) rfl rfl) ?_
    refine X.opw X.wN rfl (X.move (v := .bool _) rfl) ?_
    refine X.forkO 49 rfl (fun h49 => ?_) (fun h49 => ?_)
    · refine X.opE (X.wG rfl rfl rfl) rfl (X.callE (alive_c _) Try.call14 rfl rfl) ?_
      rintro _ w17 ⟨rfl, hk17⟩
      have hk17' := hk17.size
      refine X.opw X.wN rfl (X.pickT (v := .bool _) rfl rfl) ?_
      refine X.opw X.wN rfl (X.assign (v := .bool _) rfl) ?_
      refine X.opsEnd ?_
      refine X.ret1 (v := (.bool _)) Try.func6 Try.results6 rfl ?_
      exact ⟨rfl, ((((((((((((((hk1.trans hk2).trans hk3).trans hk4).trans hk5).step hx6 (by intros; (try simp only [] at *); omega)).trans hk7).trans hk8).trans hk9).step hx10 (by intros; (try simp only [] at *); omega)).trans hk11).trans hk12).trans hk14).trans hk15).trans hk17)⟩
    · simp at h49
  · simp at h42
end Go.Proofs.Ytgfficbkajcdpaa

namespace Go.Proofs.Ytgfficbkajcdpaa
open Go Go.Proofs.Ytgfficbkajcdpaa.X
set_option linter.unusedVariables false
set_option linter.unusedSimpArgs false
def onceL : Option TH → List TH → List TH
  | _, [] => []
  | none, x :: xs => x :: onceL (some x) xs
  | some p, x :: xs => if p.1 = x.1 then onceL (some p) xs else x :: onceL (some x) xs
theorem once_new {p : Option TH} {x : TH} {xs : List TH} (h : p = none ∨ (p.getD (0, 0)).1 ≠ x.1) : onceL p (x :: xs) = x :: onceL (some x) xs := by
  cases p with
  | none => rfl
  | some p => rw [onceL, if_neg (by simpa using h)]
theorem once_old {p : Option TH} {x : TH} {xs : List TH} (h : p ≠ none) (h2 : (p.getD (0, 0)).1 = x.1) : onceL p (x :: xs) = onceL p xs := by
  cases p with
  | none => exact absurd rfl h
  | some p => rw [onceL, if_pos (by simpa using h2)]
theorem once_len : ∀ (xs : List TH) (p : Option TH), (onceL p xs).length ≤ xs.length
  | [], p => by cases p <;> exact Nat.le_refl _
  | x :: xs, none => by have := once_len xs (some x); simp [onceL]; omega
  | x :: xs, some p => by
    have := once_len xs (some x)
    have := once_len xs (some p)
    rw [onceL]; split <;> simp <;> omega
theorem cmp_eq {nc : Int} {a b : Int} (h1 : nc < 0 ↔ a < b) (h2 : 0 < nc ↔ b < a) : nc = 0 ↔ a = b := by
  constructor
  · intro h; have := mt h1.2 (by omega); have := mt h2.2 (by omega); omega
  · intro h; have := mt h1.1 (by omega); have := mt h2.1 (by omega); omega
theorem last_at {l : List TH} (h : l ≠ []) : ∃ z, l[l.length - 1]? = some z ∧ l.getLast? = some z := by
  refine ⟨l.getLast h, ?_, List.getLast?_eq_some_getLast h⟩
  rw [← List.getLast?_eq_getElem?]; exact List.getLast?_eq_some_getLast h
-- f27 "pedigree/pedigreeref09.Once" params [24] results [24] -> [(ResultVar.tmp 2)] nfree 0 ntmps 36 names ["
set_option maxHeartbeats 4000000 in
set_option maxRecDepth 100000 in
theorem ROnce_c {lo hi : Nat} {A : Option Addr} {n c : Nat} {l : List TH} (w : World) (hs : Sl KTh lo hi w A n l) (hn : n ≤ 1000000) : Ret Try.prog 27 #[.slice A n c] w fun r w' => Fresh KTh 29 w w' r (onceL none l) := by
  have hl := hs.len
  refine X.enter Try.func27 rfl Try.ntmps27 rfl ?_
  refine X.seq ?_
  refine X.region ?_
  refine X.opw X.wN rfl (X.assign rfl) ?_
  refine X.opsEnd ?_
  refine X.seq ?_
  refine X.region ?_
  refine X.opw X.wN rfl (X.assign rfl) ?_
  refine X.opsEnd ?_
  refine X.seq ?_
  refine X.seq ?_
  refine X.region ?_
  refine X.opw X.wN rfl (X.assign rfl) ?_
  refine X.opsEnd ?_
  refine X.block ?_
  -- LOOP live: 0=l, 3=out*, 4=i*
  refine X.loopL (σ := Nat × Value × List TH) (fun s => [(0, .slice A n c), (3, s.2.1), (4, .int .i64 (s.1 : Int))]) (fun s w' => s.1 ≤ n ∧ s.2.2.length ≤ s.1 ∧ s.2.2 ++ onceL s.2.2.getLast? (l.drop s.1) = onceL none l ∧ Mine KTh 29 (fun k => w.heap.size ≤ k) 0 0 w' s.2.1 s.2.2 ∧ Keep w w') (fun s => n - s.1) (0, _, []) ⟨rfl, rfl, rfl, trivial⟩ ⟨Nat.zero_le _, Nat.zero_le _, by simp, Mine.nil _ _ _ _ _ _, (Keep.refl _)⟩ ?_
  rintro ⟨i, v, out⟩ b0 wl ⟨hi, hol, ho, hM0, hk⟩ hback
  dsimp only
  simp only at hi hol ho hM0
  have hk' := hk.size
  refine X.seq ?_
  refine X.seq ?_
  refine X.region ?_
  refine X.opw X.wN rfl (X.move (v := .int .i64 _) rfl) ?_
  refine X.opw X.wN rfl (X.move (v := .slice _ _ _) rfl) ?_
  refine X.opw X.wN rfl (X.lenSl Try.underlying24 rfl) ?_
  refine X.opP X.wN rfl rfl (X.lss rfl rfl) (fun h8 => ?_) (fun h8 => ?_)
  · obtain ⟨x, hx⟩ := get2 i hl (by omega)
    refine X.opsEnd ?_
    refine X.condT rfl ?_
    refine X.skip ?_
    refine X.seq ?_
    refine X.block ?_
    refine X.seq ?_
    refine X.regionD (fun _ => False) 17 (by kernel_rfl) (by kernel_rfl) (fun w1 hk1 hz1 => ?_)
    refine X.dTake 0 rfl (by kernel_rfl) (by kernel_rfl) (by kernel_rfl) (X.dwN rfl) (fun w' hk' => X.move rfl) ?_
    have q2 := (hM0.keep hk1).slF KTh_flat 0 (fun _ _ => Nat.zero_le _)
    obtain ⟨A2, c2, rfl, hc2, hs2⟩ := q2
    refine X.dTake 1 rfl (by kernel_rfl) (by kernel_rfl) (by kernel_rfl) (X.dwN rfl) (fun w' hk' => X.lenSl Try.underlying24 rfl) ?_
    refine X.dTake 2 rfl (by kernel_rfl) (by kernel_rfl) (by kernel_rfl) (X.dwN rfl) (fun w' hk' => X.eqI rfl rfl) ?_
    refine X.dTake 3 rfl (by kernel_rfl) (by kernel_rfl) (by kernel_rfl) (X.dwN rfl) (fun w' hk' => X.move (v := .bool _) rfl) ?_
    refine X.dFork 14 rfl (fun h14 => ?_) (fun h14 => ?_)
    · have hout : out = [] := List.eq_nil_of_length_eq_zero (by have := of_decide_eq_true h14; omega)
      have hnew : out.getLast? = none ∨ ((out.getLast?).getD (0, 0)).1 ≠ x.1 := .inl (by rw [hout]; rfl)
      refine X.dTakeS 4 rfl (by kernel_rfl) (by kernel_rfl) (by kernel_rfl) rfl rfl rfl rfl ?_
      refine X.dTakeS 5 rfl (by kernel_rfl) (by kernel_rfl) (by kernel_rfl) rfl rfl rfl rfl ?_
      refine X.dTakeS 6 rfl (by kernel_rfl) (by kernel_rfl) (by kernel_rfl) rfl rfl rfl rfl ?_
      refine X.dTakeS 7 rfl (by kernel_rfl) (by kernel_rfl) (by kernel_rfl) rfl rfl rfl rfl ?_
      refine X.dTakeS 8 rfl (by kernel_rfl) (by kernel_rfl) (by kernel_rfl) rfl rfl rfl rfl ?_
      refine X.dTakeS 9 rfl (by kernel_rfl) (by kernel_rfl) (by kernel_rfl) rfl rfl rfl rfl ?_
      refine X.dTakeS 10 rfl (by kernel_rfl) (by kernel_rfl) (by kernel_rfl) rfl rfl rfl rfl ?_
      refine X.dSkip (i := 11) (by kernel_rfl) rfl rfl rfl rfl rfl ?_
      refine X.dSkip (i := 12) (by kernel_rfl) rfl rfl rfl rfl rfl ?_
      refine X.dSkip (i := 13) (by kernel_rfl) rfl rfl rfl rfl rfl ?_
      refine X.dSkip (i := 14) (by kernel_rfl) rfl rfl rfl rfl rfl ?_
      refine X.dSkip (i := 15) (by kernel_rfl) rfl rfl rfl rfl rfl ?_
      refine X.dTake 16 rfl (by kernel_rfl) (by kernel_rfl) (by kernel_rfl) (X.dwN rfl) (fun w' hk' => X.pickT (v := .bool true) rfl rfl) ?_
      refine X.dEnd (by kernel_rfl) ?_
      refine X.condT rfl ?_
      refine X.region ?_
      refine X.opw X.wN rfl (X.move rfl) ?_
      refine X.opw X.wN rfl (X.move (v := .slice _ _ _) rfl) ?_
      refine X.opw X.wN rfl (X.move (v := .int .i64 _) rfl) ?_
      refine X.opw X.wN rfl (X.idxS (hs.keep (hk.trans hk1)) Try.underlying24 Try.sizeOf29 rfl rfl ⟨by omega, by omega⟩) ?_
      refine X.opw X.wN rfl (X.loadSN Try.isAgg29 Try.sizeOf29 (hs.keep (hk.trans hk1)) hx rfl (fun _ h => h.1) rfl) ?_
      refine X.opE X.wN rfl (X.litKF KTh_flat (K := KTh) (xs := [Operand.tmp 32]) (vs := [evT x]) (ys := [x]) Try.underlying24 Try.sizeOf29 Try.zeroValue29 rfl rfl rfl rfl rfl (repsT x)) ?_
      rintro _ w3 ⟨rfl, hs3, hB3, hk3, hz3⟩
      refine X.opE X.wN rfl (X.appE (K := KTh) (S := fun k => w.heap.size ≤ k) KTh_flat Try.underlying24 ETh rfl rfl (hM0.keep (hk1.trans hk3)) hs3 (by (try simp only [List.length_append, List.length_cons, List.length_nil, List.length_take, List.length_drop, List.length_map, List.length_range]); omega) (by intros; (try simp only [] at *); omega)) ?_
      rintro v4 w4 ⟨hM4, hx4⟩
      have hx4' := hx4.size
      refine X.opw X.wN rfl (X.assign rfl) ?_
      refine X.opsEnd ?_
      refine X.inBlock ?_
      refine X.region ?_
      refine X.opw X.wN rfl (X.move (v := .int .i64 _) rfl) ?_
      refine X.opw X.wN rfl (X.add rfl rfl (X.w_i64 (by omega))) ?_
      refine X.opw X.wN rfl (X.assign (v := .int .i64 _) rfl) ?_
      refine X.opsEnd ?_
      refine hback (i + 1, _, out ++ [x]) _ _ ⟨rfl, rfl, rfl, trivial⟩ ⟨by dsimp only; omega, by dsimp only; rw [List.length_append]; simp only [List.length_cons, List.length_nil]; omega, by dsimp only; rw [← ho, drop_at hx, once_new hnew]; simp, hM4, (((hk.trans hk1).trans hk3).step hx4 (by intros; (try simp only [] at *); omega))⟩ (by dsimp only; omega)
    · have hout : out ≠ [] := fun h => by rw [h] at h14; simp at h14
      obtain ⟨z, hz, hzl⟩ := last_at hout
      have hlo : 0 < out.length := Nat.pos_of_ne_zero (fun h => hout (List.eq_nil_of_length_eq_zero h))
      refine X.dTake 4 rfl (by kernel_rfl) (by kernel_rfl) (by kernel_rfl) (X.dwG rfl rfl rfl) (fun w' hk' => X.move rfl) ?_
      refine X.dTake 5 rfl (by kernel_rfl) (by kernel_rfl) (by kernel_rfl) (X.dwG rfl rfl rfl) (fun w' hk' => X.move rfl) ?_
      refine X.dTake 6 rfl (by kernel_rfl) (by kernel_rfl) (by kernel_rfl) (X.dwG rfl rfl rfl) (fun w' hk' => X.lenSl Try.underlying24 rfl) ?_
      refine X.dTake 7 rfl (by kernel_rfl) (by kernel_rfl) (by kernel_rfl) (X.dwG rfl rfl rfl) (fun w' hk' => X.sub (c := ((out.length - 1 : Nat) : Int)) rfl rfl (by rw [X.w_i64 (by omega)]; omega)) ?_
      refine X.dTake 8 rfl (by kernel_rfl) (by kernel_rfl) (by kernel_rfl) (X.dwG rfl rfl rfl) (fun w' hk' => X.idxS (hs2.keep hk') Try.underlying24 Try.sizeOf29 rfl rfl ⟨by omega, by omega⟩) ?_
      refine X.dTake 9 rfl (by kernel_rfl) (by kernel_rfl) (by kernel_rfl) (X.dwG rfl rfl rfl) (fun w' hk' => X.loadSN Try.isAgg29 Try.sizeOf29 (hs2.keep hk') hz rfl (fun _ h => h.1) rfl) ?_
      refine X.dTake 10 rfl (by kernel_rfl) (by kernel_rfl) (by kernel_rfl) (X.dwG rfl rfl rfl) (fun w' hk' => X.move (v := .slice _ _ _) rfl) ?_
      refine X.dTake 11 rfl (by kernel_rfl) (by kernel_rfl) (by kernel_rfl) (X.dwG rfl rfl rfl) (fun w' hk' => X.move (v := .int .i64 _) rfl) ?_
      refine X.dTake 12 rfl (by kernel_rfl) (by kernel_rfl) (by kernel_rfl) (X.dwG rfl rfl rfl) (fun w' hk' => X.idxS (hs.keep ((hk.trans hk1).trans hk')) Try.underlying24 Try.sizeOf29 rfl rfl ⟨by omega, by omega⟩) ?_
      refine X.dTake 13 rfl (by kernel_rfl) (by kernel_rfl) (by kernel_rfl) (X.dwG rfl rfl rfl) (fun w' hk' => X.loadSN Try.isAgg29 Try.sizeOf29 (hs.keep ((hk.trans hk1).trans hk')) hx rfl (fun _ h => h.1) rfl) ?_
      refine X.dE (i := 14) (by kernel_rfl) rfl (X.dwG rfl rfl rfl) (X.callE (Compare_c z x _) Try.call17 rfl rfl) (by rintro _ w5 ⟨nc5, rfl, hlt5, hgt5, hk5⟩ _; exact hk5.mono (fun _ _ h => h.elim)) ?_
      rintro _ w5 ⟨nc5, rfl, hlt5, hgt5, hk5⟩
      have hk5' := hk5.size
      refine X.dTake 15 rfl (by kernel_rfl) (by kernel_rfl) (by kernel_rfl) (X.dwG rfl rfl rfl) (fun w' hk' => X.neI rfl rfl) ?_
      refine X.dTake 16 rfl (by kernel_rfl) (by kernel_rfl) (by kernel_rfl) (X.dwN rfl) (fun w' hk' => X.pickF (v := .bool _) rfl rfl) ?_
      refine X.dEnd (by kernel_rfl) ?_
      refine X.condB rfl (fun hc => ?_) (fun hc => ?_)
      · have hnew : out.getLast? = none ∨ ((out.getLast?).getD (0, 0)).1 ≠ x.1 := .inr (by rw [hzl]; intro h; have := (cmp_eq hlt5 hgt5).2 h; simp [this] at hc)
        refine X.region ?_
        refine X.opw X.wN rfl (X.move rfl) ?_
        refine X.opw X.wN rfl (X.move (v := .slice _ _ _) rfl) ?_
        refine X.opw X.wN rfl (X.move (v := .int .i64 _) rfl) ?_
        refine X.opw X.wN rfl (X.idxS (hs.keep ((hk.trans hk1).trans hk5)) Try.underlying24 Try.sizeOf29 rfl rfl ⟨by omega, by omega⟩) ?_
        refine X.opw X.wN rfl (X.loadSN Try.isAgg29 Try.sizeOf29 (hs.keep ((hk.trans hk1).trans hk5)) hx rfl (fun _ h => h.1) rfl) ?_
        refine X.opE X.wN rfl (X.litKF KTh_flat (K := KTh) (xs := [Operand.tmp 32]) (vs := [evT x]) (ys := [x]) Try.underlying24 Try.sizeOf29 Try.zeroValue29 rfl rfl rfl rfl rfl (repsT x)) ?_
        rintro _ w6 ⟨rfl, hs6, hB6, hk6, hz6⟩
        refine X.opE X.wN rfl (X.appE (K := KTh) (S := fun k => w.heap.size ≤ k) KTh_flat Try.underlying24 ETh rfl rfl (hM0.keep ((hk1.trans hk5).trans hk6)) hs6 (by (try simp only [List.length_append, List.length_cons, List.length_nil, List.length_take, List.length_drop, List.length_map, List.length_range]); omega) (by intros; (try simp only [] at *); omega)) ?_
        rintro v7 w7 ⟨hM7, hx7⟩
        have hx7' := hx7.size
        refine X.opw X.wN rfl (X.assign rfl) ?_
        refine X.opsEnd ?_
        refine X.inBlock ?_
        refine X.region ?_
        refine X.opw X.wN rfl (X.move (v := .int .i64 _) rfl) ?_
        refine X.opw X.wN rfl (X.add rfl rfl (X.w_i64 (by omega))) ?_
        refine X.opw X.wN rfl (X.assign (v := .int .i64 _) rfl) ?_
        refine X.opsEnd ?_
        refine hback (i + 1, _, out ++ [x]) _ _ ⟨rfl, rfl, rfl, trivial⟩ ⟨by dsimp only; omega, by dsimp only; rw [List.length_append]; simp only [List.length_cons, List.length_nil]; omega, by dsimp only; rw [← ho, drop_at hx, once_new hnew]; simp, hM7, ((((hk.trans hk1).trans hk5).trans hk6).step hx7 (by intros; (try simp only [] at *); omega))⟩ (by dsimp only; omega)
      · have hold : ((out.getLast?).getD (0, 0)).1 = x.1 := by rw [hzl]; exact (cmp_eq hlt5 hgt5).1 (by simpa using hc)
        refine X.skip ?_
        refine X.inBlock ?_
        refine X.region ?_
        refine X.opw X.wN rfl (X.move (v := .int .i64 _) rfl) ?_
        refine X.opw X.wN rfl (X.add rfl rfl (X.w_i64 (by omega))) ?_
        refine X.opw X.wN rfl (X.assign (v := .int .i64 _) rfl) ?_
        refine X.opsEnd ?_
        refine hback (i + 1, _, out) _ _ ⟨rfl, rfl, rfl, trivial⟩ ⟨by dsimp only; omega, by dsimp only; omega, by dsimp only; rw [← ho, drop_at hx, once_old (by rw [hzl]; simp) hold], (hM0.keep (hk1.trans hk5)), ((hk.trans hk1).trans hk5)⟩ (by dsimp only; omega)
  · refine X.opsEnd ?_
    refine X.condF rfl ?_
    refine X.exit rfl ?_
    refine X.seq ?_
    refine X.region ?_
    refine X.opw X.wN rfl (X.move rfl) ?_
    refine X.opw X.wN rfl (X.assign rfl) ?_
    refine X.opsEnd ?_
    refine X.ret1 Try.func27 Try.results27 rfl ?_
    exact ⟨by rw [List.drop_of_length_le (show l.length ≤ i by omega)] at ho; rw [show out = onceL none l by rw [← ho]; cases out.getLast? <;> simp [onceL]] at hM0; exact hM0, hk⟩
-- f53 "pedigree/merge.Once[pedigree/pedigreeref09.Thing]$1" params [] results [29, 4] -> [(ResultVar.cell 4 2
set_option maxHeartbeats 4000000 in
set_option maxRecDepth 100000 in
theorem Once1_c {B c3 c6 c2 c5 : Nat} {Tc : Nat → Prop} {p : Option TH} {xs0 : List TH} {cv q : Value} (w : World) (hbl : Blk w c3 [.iface 84 q] 33 ∧ Blk w c6 [.bool p.isSome] 4 ∧ Blk w c2 [cv] 35 ∧ Blk w c5 [.int .i8 (p.getD (0, 0)).1, .int .i64 (p.getD (0, 0)).2] 29) (hC : Cur Try.prog evT (0, 0) NX B Tc q xs0 w) (hBs : B ≤ w.heap.size) (hB5 : B ≤ c5) (hB6 : B ≤ c6) (hsep : ∀ k, Tc k → k ≠ c3 ∧ k ≠ c6 ∧ k ≠ c2 ∧ k ≠ c5 ∧ k < w.heap.size) (hne : c3 ≠ c5 ∧ c3 ≠ c6 ∧ c2 ≠ c5 ∧ c2 ≠ c6 ∧ c5 ≠ c6) (hcmp : CmpOk cv) :
    Ret Try.prog 53 #[.pointer (some ⟨c3, 0, none⟩), .pointer (some ⟨c6, 0, none⟩), .pointer (some ⟨c2, 0, none⟩), .pointer (some ⟨c5, 0, none⟩)] w fun r w' => r = hdV evT (0, 0) (onceL p xs0) ∧ Ext (fun k => Tc k ∨ k = c5 ∨ k = c6) w w' ∧ (onceL p xs0 ≠ [] → ∃ x xs, (onceL p xs0).tail = onceL (some x) xs ∧ Cur Try.prog evT (0, 0) NX B Tc q xs w' ∧ (Blk w' c3 [.iface 84 q] 33 ∧ Blk w' c6 [.bool true] 4 ∧ Blk w' c2 [cv] 35 ∧ Blk w' c5 [.int .i8 x.1, .int .i64 x.2] 29)) := by
  obtain ⟨h3, h6, h2, h5⟩ := hbl
  have h3l := h3.lt
  have h6l := h6.lt
  have h2l := h2.lt
  have h5l := h5.lt
  refine X.enter Try.func53 rfl Try.ntmps53 rfl ?_
  refine X.seq ?_
  refine X.region ?_
  refine X.opE X.wN rfl (X.allocE Try.zeroValue29 rfl) ?_
  rintro _ w1 ⟨rfl, hB1, hk1, hz1⟩
  refine X.opw X.wN rfl (X.assign rfl) ?_
  refine X.opsEnd ?_
  refine X.block ?_
  -- LOOP live: 0, 1, 2, 3, 4=x
  refine X.loopL (σ := TH × List TH) (fun s => [(0, .pointer (some ⟨c3, 0, none⟩)), (1, .pointer (some ⟨c6, 0, none⟩)), (2, .pointer (some ⟨c2, 0, none⟩)), (3, .pointer (some ⟨c5, 0, none⟩)), (4, .pointer (some ⟨w.heap.size, 0, none⟩))]) (fun s w' => onceL p s.2 = onceL p xs0 ∧ (Blk w' c3 [.iface 84 q] 33 ∧ Blk w' c6 [.bool p.isSome] 4 ∧ Blk w' c2 [cv] 35 ∧ Blk w' c5 [.int .i8 (p.getD (0, 0)).1, .int .i64 (p.getD (0, 0)).2] 29) ∧ Blk w' w.heap.size [.int .i8 s.1.1, .int .i64 s.1.2] 29 ∧ Cur Try.prog evT (0, 0) NX B Tc q s.2 w' ∧ Ext (fun k => Tc k ∨ k = c5 ∨ k = c6) w w' ∧ w.heap.size < w'.heap.size) (fun s => s.2.length) ((0, 0), xs0) ⟨rfl, rfl, rfl, rfl, rfl, trivial⟩ ⟨rfl, ⟨(h3.keep hk1), (h6.keep hk1), (h2.keep hk1), (h5.keep hk1)⟩, hB1, hC.keep hk1, hk1.mono (fun _ _ h => h.elim), by omega⟩ ?_
  rintro ⟨z, xs⟩ b0 wl ⟨hol, ⟨hBa, hBb, hBc, hBd⟩, hBz, hCc, hE, hwl⟩ hback
  dsimp only
  simp only at hol hBz hCc
  refine X.block ?_
  refine X.seq ?_
  refine X.seq ?_
  refine X.region ?_
  refine X.opw X.wN rfl (X.load1B Try.isAgg33 hBa rfl rfl) ?_
  refine X.opE X.wN rfl (X.invokeE rfl (next_m _) hCc.next Try.call98) ?_
  rintro _ w2 ⟨rfl, hx2, hC2⟩
  have hx2' := hx2.size
  refine X.opw X.wN rfl (X.move rfl) ?_
  refine X.opw X.wN rfl (X.extr rfl rfl) ?_
  refine X.opw X.wN rfl (X.extr rfl rfl) ?_
  refine X.opE X.wN rfl (X.storeNE Try.sizeOf29 (hBz.ext hx2 (by intro h; have := hsep _ h; omega)) rfl rfl rfl rfl (fun u hu => by simp at hu; rcases hu with rfl | rfl <;> rfl)) ?_
  rintro _ w3 ⟨hB3, hx3, hz3⟩
  refine X.opw X.wN rfl (X.assign (v := .bool _) rfl) ?_
  refine X.opsEnd ?_
  refine X.seq ?_
  refine X.region ?_
  refine X.opw X.wN rfl (X.move (v := .bool _) rfl) ?_
  refine X.opw X.wN rfl (X.not_ rfl) ?_
  refine X.opsEnd ?_
  refine X.condB rfl (fun hc => ?_) (fun hc => ?_)
  · obtain rfl : xs = [] := by simpa using hc
    refine X.seq ?_
    refine X.region ?_
    refine X.opw X.wN rfl (X.loadNB Try.isAgg29 Try.sizeOf29 hB3 rfl rfl rfl) ?_
    refine X.opE X.wN rfl (X.storeNE Try.sizeOf29 hB3 rfl rfl rfl rfl (fun u hu => by simp at hu; rcases hu with rfl | rfl <;> rfl)) ?_
    rintro _ w4 ⟨hB4, hx4, hz4⟩
    refine X.opw X.wN rfl (X.assign rfl) ?_
    refine X.opsEnd ?_
    refine X.ret_unw (X.unwR2 Try.func53 Try.results53 (X.ResOk.cell rfl (X.lvN Try.isAgg29 Try.sizeOf29 hB4 rfl)) (show X.ResOk _ _ _ (.tmp 5) (.bool _) from rfl) ?_)
    rw [← hol]
    have e0 : onceL p [] = [] := by cases p <;> rfl
    rw [e0]
    exact ⟨rfl, (Ext.andThen (Ext.andThen (Ext.andThen hE hx2 (by intro k h1 h2; first | exact (h2 : False).elim | exact .inl h2 | exact .inr (.inl h2) | exact .inr (.inr h2) | exact h2 | (exfalso; (try simp only [] at *); omega))) hx3 (by intro k h1 h2; first | exact (h2 : False).elim | exact .inl h2 | exact .inr (.inl h2) | exact .inr (.inr h2) | exact h2 | (exfalso; (try simp only [] at *); omega))) hx4 (by intro k h1 h2; first | exact (h2 : False).elim | exact .inl h2 | exact .inr (.inl h2) | exact .inr (.inr h2) | exact h2 | (exfalso; (try simp only [] at *); omega))), fun h => absurd rfl h⟩
  · obtain ⟨x, xs', rfl⟩ : ∃ x xs', xs = x :: xs' := by
      cases xs with
      | nil => simp at hc
      | cons x xs' => exact ⟨x, xs', rfl⟩
    refine X.skip ?_
    refine X.seq ?_
    refine X.region ?_
    refine X.opw X.wN rfl (X.load1B Try.isAgg4 ((hBb.ext hx2 (by intro h; have := hsep _ h; omega)).ext hx3 (by first | (intros; (try simp only []); omega) | (intro h; have := hsep _ h; omega))) rfl rfl) ?_
    refine X.opw X.wN rfl (X.not_ rfl) ?_
    refine X.opw X.wN rfl (X.move (v := .bool _) rfl) ?_
    refine X.forkO 16 rfl (fun h16 => ?_) (fun h16 => ?_)
    · have hnew : p = none ∨ (p.getD (0, 0)).1 ≠ x.1 := .inl (by cases p with
        | none => rfl
        | some p => simp at h16)
      refine X.opS rfl rfl rfl rfl rfl ?_
      refine X.opS rfl rfl rfl rfl rfl ?_
      refine X.opS rfl rfl rfl rfl rfl ?_
      refine X.opS rfl rfl rfl rfl rfl ?_
      refine X.opS rfl rfl rfl rfl rfl ?_
      refine X.opw X.wN rfl (X.pickT (v := .bool true) rfl rfl) ?_
      refine X.opsEnd ?_
      refine X.condT rfl ?_
      refine X.seq ?_
      refine X.region ?_
      refine X.opw X.wN rfl (X.loadNB Try.isAgg29 Try.sizeOf29 hB3 rfl rfl rfl) ?_
      refine X.opE X.wN rfl (X.storeNE Try.sizeOf29 ((hBd.ext hx2 (by intro h; have := hsep _ h; omega)).ext hx3 (by first | (intros; (try simp only []); omega) | (intro h; have := hsep _ h; omega))) rfl rfl rfl rfl (fun u hu => by simp at hu; rcases hu with rfl | rfl <;> rfl)) ?_
      rintro _ w5 ⟨hB5, hx5, hz5⟩
      refine X.opE X.wN rfl (X.storeE Try.sizeOf4 (((hBb.ext hx2 (by intro h; have := hsep _ h; omega)).ext hx3 (by first | (intros; (try simp only []); omega) | (intro h; have := hsep _ h; omega))).ext hx5 (by first | (intros; (try simp only []); omega) | (intro h; have := hsep _ h; omega))) rfl rfl rfl rfl) ?_
      rintro _ w6 ⟨hB6, hx6, hz6⟩
      refine X.opsEnd ?_
      refine X.seq ?_
      refine X.region ?_
      refine X.opw X.wN rfl (X.loadNB Try.isAgg29 Try.sizeOf29 ((hB3.ext hx5 (by first | (intros; (try simp only []); omega) | (intro h; have := hsep _ h; omega))).ext hx6 (by first | (intros; (try simp only []); omega) | (intro h; have := hsep _ h; omega))) rfl rfl rfl) ?_
      refine X.opE X.wN rfl (X.storeNE Try.sizeOf29 ((hB3.ext hx5 (by first | (intros; (try simp only []); omega) | (intro h; have := hsep _ h; omega))).ext hx6 (by first | (intros; (try simp only []); omega) | (intro h; have := hsep _ h; omega))) rfl rfl rfl rfl (fun u hu => by simp at hu; rcases hu with rfl | rfl <;> rfl)) ?_
      rintro _ w7 ⟨hB7, hx7, hz7⟩
      refine X.opw X.wN rfl (X.assign rfl) ?_
      refine X.opsEnd ?_
      refine X.ret_unw (X.unwR2 Try.func53 Try.results53 (X.ResOk.cell rfl (X.lvN Try.isAgg29 Try.sizeOf29 hB7 rfl)) (show X.ResOk _ _ _ (.tmp 5) (.bool _) from rfl) ?_)
      rw [← hol, once_new hnew]
      exact ⟨rfl, (Ext.andThen (Ext.andThen (Ext.andThen (Ext.andThen (Ext.andThen hE hx2 (by intro k h1 h2; first | exact (h2 : False).elim | exact .inl h2 | exact .inr (.inl h2) | exact .inr (.inr h2) | exact h2 | (exfalso; (try simp only [] at *); omega))) hx3 (by intro k h1 h2; first | exact (h2 : False).elim | exact .inl h2 | exact .inr (.inl h2) | exact .inr (.inr h2) | exact h2 | (exfalso; (try simp only [] at *); omega))) hx5 (by intro k h1 h2; first | exact (h2 : False).elim | exact .inl h2 | exact .inr (.inl h2) | exact .inr (.inr h2) | exact h2 | (exfalso; (try simp only [] at *); omega))) hx6 (by intro k h1 h2; first | exact (h2 : False).elim | exact .inl h2 | exact .inr (.inl h2) | exact .inr (.inr h2) | exact h2 | (exfalso; (try simp only [] at *); omega))) hx7 (by intro k h1 h2; first | exact (h2 : False).elim | exact .inl h2 | exact .inr (.inl h2) | exact .inr (.inr h2) | exact h2 | (exfalso; (try simp only [] at *); omega))), fun _ => ⟨x, xs', rfl, ((((hC2.ext hx3 (by intro k hk hk2; refine ⟨?_, fun ht => ?_⟩ <;> ((try simp only [] at *); first | omega | (have := hsep k ht; omega)))).ext hx5 (by intro k hk hk2; refine ⟨?_, fun ht => ?_⟩ <;> ((try simp only [] at *); first | omega | (have := hsep k ht; omega)))).ext hx6 (by intro k hk hk2; refine ⟨?_, fun ht => ?_⟩ <;> ((try simp only [] at *); first | omega | (have := hsep k ht; omega)))).ext hx7 (by intro k hk hk2; refine ⟨?_, fun ht => ?_⟩ <;> ((try simp only [] at *); first | omega | (have := hsep k ht; omega)))), ⟨(((((hBa.ext hx2 (by intro h; have := hsep _ h; omega)).ext hx3 (by first | (intros; (try simp only []); omega) | (intro h; have := hsep _ h; omega))).ext hx5 (by first | (intros; (try simp only []); omega) | (intro h; have := hsep _ h; omega))).ext hx6 (by first | (intros; (try simp only []); omega) | (intro h; have := hsep _ h; omega))).ext hx7 (by first | (intros; (try simp only []); omega) | (intro h; have := hsep _ h; omega))), (hB6.ext hx7 (by first | (intros; (try simp only []); omega) | (intro h; have := hsep _ h; omega))), (((((hBc.ext hx2 (by intro h; have := hsep _ h; omega)).ext hx3 (by first | (intros; (try simp only []); omega) | (intro h; have := hsep _ h; omega))).ext hx5 (by first | (intros; (try simp only []); omega) | (intro h; have := hsep _ h; omega))).ext hx6 (by first | (intros; (try simp only []); omega) | (intro h; have := hsep _ h; omega))).ext hx7 (by first | (intros; (try simp only []); omega) | (intro h; have := hsep _ h; omega))), ((hB5.ext hx6 (by first | (intros; (try simp only []); omega) | (intro h; have := hsep _ h; omega))).ext hx7 (by first | (intros; (try simp only []); omega) | (intro h; have := hsep _ h; omega)))⟩⟩⟩
    · have hp : p ≠ none := fun h => by rw [h] at h16; simp at h16
      refine X.opw (X.wG rfl rfl rfl) rfl (X.load1B Try.isAgg35 ((hBc.ext hx2 (by intro h; have := hsep _ h; omega)).ext hx3 (by first | (intros; (try simp only []); omega) | (intro h; have := hsep _ h; omega))) rfl rfl) ?_
      refine X.opw (X.wG rfl rfl rfl) rfl (X.loadNB Try.isAgg29 Try.sizeOf29 ((hBd.ext hx2 (by intro h; have := hsep _ h; omega)).ext hx3 (by first | (intros; (try simp only []); omega) | (intro h; have := hsep _ h; omega))) rfl rfl rfl) ?_
      refine X.opw (X.wG rfl rfl rfl) rfl (X.loadNB Try.isAgg29 Try.sizeOf29 hB3 rfl rfl rfl) ?_
      refine X.opE (X.wG rfl rfl rfl) rfl ((hcmp (p.getD (0, 0)) x _) _ _ _ _ _ _ _ _ _ rfl rfl) ?_
      rintro _ w8 ⟨nc8, rfl, hlt8, hgt8, hk8⟩
      have hk8' := hk8.size
      refine X.opP (X.wG rfl rfl rfl) rfl rfl (X.neI rfl rfl) (fun h21 => ?_) (fun h21 => ?_)
      · have hnew : p = none ∨ (p.getD (0, 0)).1 ≠ x.1 := .inr (fun h => h21 ((cmp_eq hlt8 hgt8).2 h))
        refine X.opw X.wN rfl (X.pickF (v := .bool true) rfl rfl) ?_
        refine X.opsEnd ?_
        refine X.condT rfl ?_
        refine X.seq ?_
        refine X.region ?_
        refine X.opw X.wN rfl (X.loadNB Try.isAgg29 Try.sizeOf29 (hB3.keep hk8) rfl rfl rfl) ?_
        refine X.opE X.wN rfl (X.storeNE Try.sizeOf29 (((hBd.ext hx2 (by intro h; have := hsep _ h; omega)).ext hx3 (by first | (intros; (try simp only []); omega) | (intro h; have := hsep _ h; omega))).keep hk8) rfl rfl rfl rfl (fun u hu => by simp at hu; rcases hu with rfl | rfl <;> rfl)) ?_
        rintro _ w9 ⟨hB9, hx9, hz9⟩
        refine X.opE X.wN rfl (X.storeE Try.sizeOf4 ((((hBb.ext hx2 (by intro h; have := hsep _ h; omega)).ext hx3 (by first | (intros; (try simp only []); omega) | (intro h; have := hsep _ h; omega))).keep hk8).ext hx9 (by first | (intros; (try simp only []); omega) | (intro h; have := hsep _ h; omega))) rfl rfl rfl rfl) ?_
        rintro _ w10 ⟨hB10, hx10, hz10⟩
        refine X.opsEnd ?_
        refine X.seq ?_
        refine X.region ?_
        refine X.opw X.wN rfl (X.loadNB Try.isAgg29 Try.sizeOf29 (((hB3.keep hk8).ext hx9 (by first | (intros; (try simp only []); omega) | (intro h; have := hsep _ h; omega))).ext hx10 (by first | (intros; (try simp only []); omega) | (intro h; have := hsep _ h; omega))) rfl rfl rfl) ?_
        refine X.opE X.wN rfl (X.storeNE Try.sizeOf29 (((hB3.keep hk8).ext hx9 (by first | (intros; (try simp only []); omega) | (intro h; have := hsep _ h; omega))).ext hx10 (by first | (intros; (try simp only []); omega) | (intro h; have := hsep _ h; omega))) rfl rfl rfl rfl (fun u hu => by simp at hu; rcases hu with rfl | rfl <;> rfl)) ?_
        rintro _ w11 ⟨hB11, hx11, hz11⟩
        refine X.opw X.wN rfl (X.assign rfl) ?_
        refine X.opsEnd ?_
        refine X.ret_unw (X.unwR2 Try.func53 Try.results53 (X.ResOk.cell rfl (X.lvN Try.isAgg29 Try.sizeOf29 hB11 rfl)) (show X.ResOk _ _ _ (.tmp 5) (.bool _) from rfl) ?_)
        rw [← hol, once_new hnew]
        exact ⟨rfl, (Ext.andThen (Ext.andThen (Ext.andThen (Ext.andThen (Ext.andThen (Ext.andThen hE hx2 (by intro k h1 h2; first | exact (h2 : False).elim | exact .inl h2 | exact .inr (.inl h2) | exact .inr (.inr h2) | exact h2 | (exfalso; (try simp only [] at *); omega))) hx3 (by intro k h1 h2; first | exact (h2 : False).elim | exact .inl h2 | exact .inr (.inl h2) | exact .inr (.inr h2) | exact h2 | (exfalso; (try simp only [] at *); omega))) hk8 (by intro k h1 h2; first | exact (h2 : False).elim | exact .inl h2 | exact .inr (.inl h2) | exact .inr (.inr h2) | exact h2 | (exfalso; (try simp only [] at *); omega))) hx9 (by intro k h1 h2; first | exact (h2 : False).elim | exact .inl h2 | exact .inr (.inl h2) | exact .inr (.inr h2) | exact h2 | (exfalso; (try simp only [] at *); omega))) hx10 (by intro k h1 h2; first | exact (h2 : False).elim | exact .inl h2 | exact .inr (.inl h2) | exact .inr (.inr h2) | exact h2 | (exfalso; (try simp only [] at *); omega))) hx11 (by intro k h1 h2; first | exact (h2 : False).elim | exact .inl h2 | exact .inr (.inl h2) | exact .inr (.inr h2) | exact h2 | (exfalso; (try simp only [] at *); omega))), fun _ => ⟨x, xs', rfl, (((((hC2.ext hx3 (by intro k hk hk2; refine ⟨?_, fun ht => ?_⟩ <;> ((try simp only [] at *); first | omega | (have := hsep k ht; omega)))).keep hk8).ext hx9 (by intro k hk hk2; refine ⟨?_, fun ht => ?_⟩ <;> ((try simp only [] at *); first | omega | (have := hsep k ht; omega)))).ext hx10 (by intro k hk hk2; refine ⟨?_, fun ht => ?_⟩ <;> ((try simp only [] at *); first | omega | (have := hsep k ht; omega)))).ext hx11 (by intro k hk hk2; refine ⟨?_, fun ht => ?_⟩ <;> ((try simp only [] at *); first | omega | (have := hsep k ht; omega)))), ⟨((((((hBa.ext hx2 (by intro h; have := hsep _ h; omega)).ext hx3 (by first | (intros; (try simp only []); omega) | (intro h; have := hsep _ h; omega))).keep hk8).ext hx9 (by first | (intros; (try simp only []); omega) | (intro h; have := hsep _ h; omega))).ext hx10 (by first | (intros; (try simp only []); omega) | (intro h; have := hsep _ h; omega))).ext hx11 (by first | (intros; (try simp only []); omega) | (intro h; have := hsep _ h; omega))), (hB10.ext hx11 (by first | (intros; (try simp only []); omega) | (intro h; have := hsep _ h; omega))), ((((((hBc.ext hx2 (by intro h; have := hsep _ h; omega)).ext hx3 (by first | (intros; (try simp only []); omega) | (intro h; have := hsep _ h; omega))).keep hk8).ext hx9 (by first | (intros; (try simp only []); omega) | (intro h; have := hsep _ h; omega))).ext hx10 (by first | (intros; (try simp only []); omega) | (intro h; have := hsep _ h; omega))).ext hx11 (by first | (intros; (try simp only []); omega) | (intro h; have := hsep _ h; omega))), ((hB9.ext hx10 (by first | (intros; (try simp only []); omega) | (intro h; have := hsep _ h; omega))).ext hx11 (by first | (intros; (try simp only []); omega) | (intro h; have := hsep _ h; omega)))⟩⟩⟩
      · have hold := (cmp_eq hlt8 hgt8).1 (Decidable.not_not.1 h21)
        refine X.opw X.wN rfl (X.pickF (v := .bool false) rfl rfl) ?_
        refine X.opsEnd ?_
        refine X.condF rfl ?_
        refine X.skip ?_
        refine X.inBlock ?_
        refine hback (x, xs') _ _ ⟨rfl, rfl, rfl, rfl, rfl, trivial⟩ ⟨(once_old hp hold).symm.trans hol, ⟨(((hBa.ext hx2 (by intro h; have := hsep _ h; omega)).ext hx3 (by first | (intros; (try simp only []); omega) | (intro h; have := hsep _ h; omega))).keep hk8), (((hBb.ext hx2 (by intro h; have := hsep _ h; omega)).ext hx3 (by first | (intros; (try simp only []); omega) | (intro h; have := hsep _ h; omega))).keep hk8), (((hBc.ext hx2 (by intro h; have := hsep _ h; omega)).ext hx3 (by first | (intros; (try simp only []); omega) | (intro h; have := hsep _ h; omega))).keep hk8), (((hBd.ext hx2 (by intro h; have := hsep _ h; omega)).ext hx3 (by first | (intros; (try simp only []); omega) | (intro h; have := hsep _ h; omega))).keep hk8)⟩, (hB3.keep hk8), ((hC2.ext hx3 (by intro k hk hk2; refine ⟨?_, fun ht => ?_⟩ <;> ((try simp only [] at *); first | omega | (have := hsep k ht; omega)))).keep hk8), (Ext.andThen (Ext.andThen (Ext.andThen hE hx2 (by intro k h1 h2; first | exact (h2 : False).elim | exact .inl h2 | exact .inr (.inl h2) | exact .inr (.inr h2) | exact h2 | (exfalso; (try simp only [] at *); omega))) hx3 (by intro k h1 h2; first | exact (h2 : False).elim | exact .inl h2 | exact .inr (.inl h2) | exact .inr (.inr h2) | exact h2 | (exfalso; (try simp only [] at *); omega))) hk8 (by intro k h1 h2; first | exact (h2 : False).elim | exact .inl h2 | exact .inr (.inl h2) | exact .inr (.inr h2) | exact h2 | (exfalso; (try simp only [] at *); omega))), by omega⟩ (by simp)
theorem once_stp {B a b c3 c6 c2 c5 : Nat} {Tc : Nat → Prop} {p : Option TH} {xs0 : List TH} {cv q : Value} {w : World} (hbl : Blk w c3 [.iface 84 q] 33 ∧ Blk w c6 [.bool p.isSome] 4 ∧ Blk w c2 [cv] 35 ∧ Blk w c5 [.int .i8 (p.getD (0, 0)).1, .int .i64 (p.getD (0, 0)).2] 29) (hC : Cur Try.prog evT (0, 0) NX B Tc q xs0 w) (hBa : B ≤ a) (hbw : b ≤ w.heap.size) (hT : ∀ k, Tc k → a ≤ k ∧ k < b) (h3 : a ≤ c3 ∧ c3 < b) (h6 : a ≤ c6 ∧ c6 < b) (h2 : a ≤ c2 ∧ c2 < b) (h5 : a ≤ c5 ∧ c5 < b)
    (hsep : ∀ k, Tc k → k ≠ c3 ∧ k ≠ c6 ∧ k ≠ c2 ∧ k ≠ c5) (hne : c3 ≠ c5 ∧ c3 ≠ c6 ∧ c2 ≠ c5 ∧ c2 ≠ c6 ∧ c5 ≠ c6) (hcmp : CmpOk cv) : Stp Try.prog evT (0, 0) B (fun k => a ≤ k ∧ k < b) (.func (.func 53) #[] #[ptrV c3, ptrV c6, ptrV c2, ptrV c5]) (onceL p xs0) w := by
  refine ⟨fun l w => ∃ p xs0, l = onceL p xs0 ∧ b ≤ w.heap.size ∧ (Blk w c3 [.iface 84 q] 33 ∧ Blk w c6 [.bool p.isSome] 4 ∧ Blk w c2 [cv] 35 ∧ Blk w c5 [.int .i8 (p.getD (0, 0)).1, .int .i64 (p.getD (0, 0)).2] 29) ∧ Cur Try.prog evT (0, 0) NX B Tc q xs0 w, ⟨p, xs0, rfl, hbw, hbl, hC⟩, ?_, ?_⟩
  · rintro l w w' ⟨p, xs, g1, g2, ⟨q3, q6, q2, q5⟩, g4⟩ ha
    have hz := ha.size
    exact ⟨p, xs, g1, by omega, ⟨ha.blk q3 h3, ha.blk q6 h6, ha.blk q2 h2, ha.blk q5 h5⟩, g4.agree (ha.sub hT)⟩
  · rintro l w ⟨p, xs, rfl, g2, g3, g4⟩
    refine YC.of_ret (args := []) (cap := [_, _, _, _]) ((Once1_c w g3 g4 (by omega) (by omega) (by omega) (fun k hk => by have := hsep k hk; have := hT k hk; omega) hne hcmp).mono ?_) Try.call53
    rintro r w' ⟨rfl, hx, hn'⟩
    have hz := hx.size
    refine ⟨rfl, hx.mono fun k _ hk => by rcases hk with hk | hk | hk; exact hT k hk; exact hk ▸ h5; exact hk ▸ h6, fun hne' => ?_⟩
    obtain ⟨x, xs', e1, e2, e3⟩ := hn' hne'
    exact ⟨some x, xs', e1, by omega, e3, e2⟩
-- f26 "pedigree/merge.Once[pedigree/pedigreeref09.Thing]" params [35, 33] results [33] -> [(ResultVar.tmp 4)]
set_option maxHeartbeats 4000000 in
set_option maxRecDepth 100000 in
theorem Once_c {B a0 b0 : Nat} {q : Value} {l0 : List TH} {fn : Fn} {bs ca : Array Value} (w : World) (h0 : CV B (fun k => a0 ≤ k ∧ k < b0) (.iface 84 q) l0 w) (hB : B ≤ a0) (hab : a0 ≤ b0) (hb : b0 ≤ w.heap.size) (hcmp : CmpOk (.func fn bs ca)) :
    Ret Try.prog 26 #[.func fn bs ca, .iface 84 q] w fun r w' => (∃ p', r = .iface 84 p') ∧ CV B (fun k => a0 ≤ k ∧ k < w'.heap.size) r (onceL none l0) w' ∧ Keep w w' := by
  refine X.enter Try.func26 rfl Try.ntmps26 rfl ?_
  refine X.seq ?_
  refine X.region ?_
  refine X.opE X.wN rfl (X.boxE rfl rfl) ?_
  rintro _ w1 ⟨rfl, hB1, hk1, hz1⟩
  refine X.opE X.wN rfl (X.boxE rfl rfl) ?_
  rintro _ w2 ⟨rfl, hB2, hk2, hz2⟩
  refine X.opw X.wN rfl (X.assign rfl) ?_
  refine X.opsEnd ?_
  refine X.seq ?_
  refine X.seq ?_
  refine X.region ?_
  refine X.opw X.wN rfl (X.load1B Try.isAgg35 (hB1.keep hk2) rfl rfl) ?_
  refine X.opw X.wN rfl (X.eqFn1 Try.underlying35 rfl rfl) ?_
  refine X.opw X.wN rfl (X.move (v := .bool false) rfl) ?_
  refine X.opw (X.wG rfl rfl rfl) rfl (X.load1B Try.isAgg33 hB2 rfl rfl) ?_
  refine X.opw (X.wG rfl rfl rfl) rfl (X.eqIf1 Try.underlying33 rfl rfl) ?_
  refine X.opw X.wN rfl (X.pickF (v := .bool false) rfl rfl) ?_
  refine X.opsEnd ?_
  refine X.condF rfl ?_
  refine X.skip ?_
  refine X.seq ?_
  refine X.region ?_
  refine X.opE X.wN rfl (X.allocE Try.zeroValue29 rfl) ?_
  rintro _ w3 ⟨rfl, hB3, hk3, hz3⟩
  refine X.opsEnd ?_
  refine X.seq ?_
  refine X.region ?_
  refine X.opE X.wN rfl (X.allocE Try.zeroValue4 rfl) ?_
  rintro _ w4 ⟨rfl, hB4, hk4, hz4⟩
  refine X.opE X.wN rfl (X.storeE Try.sizeOf4 hB4 rfl rfl rfl rfl) ?_
  rintro _ w5 ⟨hB5, hx5, hz5⟩
  refine X.opsEnd ?_
  refine X.seq ?_
  refine X.region ?_
  refine X.opw X.wN rfl (X.mkFunc rfl) ?_
  refine X.opw X.wN rfl (X.buildB (vs := [(0, .func (.func 53) #[] #[ptrV (w1.heap.size), ptrV (w3.heap.size), ptrV (w.heap.size), ptrV (w2.heap.size)])]) (cs := #[.func (.func 53) #[] #[ptrV (w1.heap.size), ptrV (w3.heap.size), ptrV (w.heap.size), ptrV (w2.heap.size)], .bool false]) rfl (by kernel_rfl)) ?_
  refine X.opE X.wN rfl (X.boxE rfl rfl) ?_
  rintro _ w6 ⟨rfl, hB6, hk6, hz6⟩
  refine X.opw X.wN rfl (X.mkIface Try.underlying84 rfl rfl) ?_
  refine X.opw X.wN rfl (X.assign rfl) ?_
  refine X.opsEnd ?_
  refine X.ret1 Try.func26 Try.results26 rfl ?_
  refine ⟨⟨_, rfl⟩, ?_, (((((hk1.trans hk2).trans hk3).trans hk4).step hx5 (by intros; (try simp only [] at *); omega)).trans hk6)⟩
  exact CV.wide (cur_made (a := a0) (b := w5.heap.size) (once_stp (p := none) (Tc := fun k => a0 ≤ k ∧ k < b0) ⟨(hB2.keep (((hk3.trans hk4).step hx5 (by intros; (try simp only [] at *); omega)).trans hk6)), (hB5.keep hk6), (hB1.keep ((((hk2.trans hk3).trans hk4).step hx5 (by intros; (try simp only [] at *); omega)).trans hk6)), (hB3.keep ((hk4.step hx5 (by intros; (try simp only [] at *); omega)).trans hk6))⟩ (CV.cur (h0.keep (((((hk1.trans hk2).trans hk3).trans hk4).step hx5 (by intros; (try simp only [] at *); omega)).trans hk6))) hB (by omega) (fun k hk => by omega) (by omega) (by omega) (by omega) (by omega) (fun k hk => by (try simp only [] at *); omega) (by omega) hcmp) hB6 (by omega) (Nat.le_refl _) (by omega)) (fun k hk => by omega)
end Go.Proofs.Ytgfficbkajcdpaa

namespace Go.Proofs.Ytgfficbkajcdpaa.X
open Go
set_option linter.unusedVariables false
set_option linter.unusedSimpArgs false

abbrev PCE := UInt8 × List UInt8
def KPc : Kd PCE := Kd.pair KB (Kd.slice KB)
theorem Sl.all {α : Type} {K : Kd α} (hF : Flat K) (hz : 0 < K.sz) {lo hi : Nat} {w : World} {A : Option Addr} {n : Nat} {xs : List α} (h : Sl K lo hi w A n xs) : Sl K 0 w.heap.size w A n xs := by
  refine ⟨h.len, h.bound, fun hn => ?_⟩
  obtain ⟨ad, e, h1, h2, hc⟩ := h.at_ hn
  refine ⟨ad, e, Nat.zero_le _, ?_, fun j x hx => ?_⟩
  · obtain ⟨cs, hr, hq⟩ := hc 0 (xs[0]'(by rw [h.len]; exact hn)) (List.getElem?_eq_getElem _)
    have hl := K.len hr
    have := hq 0 (cs[0]'(by omega)) (List.getElem?_eq_getElem _)
    have := World.block_lt_of_cell? w _ this
    rwa [add_block] at this
  · obtain ⟨cs, hr, hq⟩ := hc j x hx
    exact ⟨cs, hF hr, hq⟩
/-- What values of pieces hold; their bytes lie in blocks of G. -/
def PData (G : Nat → Prop) (w : World) : List Value → List PCE → Prop
  | [], [] => True
  | v :: vs, p :: ps => (∃ A n c lo hi, v = .agg #[.int .u8 (p.1.toNat : Int), .slice A n c] ∧ n ≤ c ∧ (∀ k, lo ≤ k → k < hi → G k) ∧ Sl KB lo hi w A n p.2) ∧ PData G w vs ps
  | _, _ => False
theorem PData.len {G : Nat → Prop} {w : World} : ∀ {vs : List Value} {ps : List PCE}, PData G w vs ps → vs.length = ps.length
  | [], [], _ => rfl
  | _ :: _, _ :: _, h => by simp [PData.len h.2]
  | [], _ :: _, h => h.elim
  | _ :: _, [], h => h.elim
theorem PData.move {G G' : Nat → Prop} {w w' : World} (hG : ∀ k, G k → G' k) (hs : ∀ k, G k → k < w.heap.size → w'.heap[k]? = w.heap[k]?) : ∀ {vs : List Value} {ps : List PCE}, PData G w vs ps → PData G' w' vs ps
  | [], [], _ => trivial
  | _ :: _, _ :: _, h => by
    obtain ⟨⟨A, n, c, lo, hi, e, h1, h2, h3⟩, h4⟩ := h
    exact ⟨⟨A, n, c, lo, hi, e, h1, fun k a b => hG k (h2 k a b), h3.move fun k a b hk => hs k (h2 k a b) hk⟩, PData.move hG hs h4⟩
  | [], _ :: _, h => h.elim
  | _ :: _, [], h => h.elim
theorem PData.app {G : Nat → Prop} {w : World} : ∀ {vs us : List Value} {ps qs : List PCE}, PData G w vs ps → PData G w us qs → PData G w (vs ++ us) (ps ++ qs)
  | [], _, [], _, _, h => h
  | _ :: _, _, _ :: _, _, h, h' => ⟨h.1, PData.app h.2 h'⟩
  | [], _, _ :: _, _, h, _ => h.elim
  | _ :: _, _, [], _, h, _ => h.elim
theorem PData.get {G : Nat → Prop} {w : World} : ∀ {vs : List Value} {ps : List PCE}, PData G w vs ps → ∀ {j : Nat} {p : PCE}, ps[j]? = some p → ∃ A n c lo hi, vs[j]? = some (.agg #[.int .u8 (p.1.toNat : Int), .slice A n c]) ∧ n ≤ c ∧ Sl KB lo hi w A n p.2
  | [], [], _, j, p, hp => by simp at hp
  | v :: vs, q :: ps, h, j, p, hp => by
    cases j with
    | zero =>
      simp only [List.getElem?_cons_zero, Option.some.injEq] at hp
      subst hp
      obtain ⟨A, n, c, lo, hi, e, h1, _, h3⟩ := h.1
      exact ⟨A, n, c, lo, hi, by rw [e]; rfl, h1, h3⟩
    | succ j =>
      simp only [List.getElem?_cons_succ] at hp ⊢
      exact PData.get h.2 hp
  | [], _ :: _, h, _, _, _ => h.elim
  | _ :: _, [], h, _, _, _ => h.elim
/-- A row of pieces that is the call's own: its row in a block from base on, its bytes in blocks of G. -/
structure PR (e base : Nat) (G : Nat → Prop) (w : World) (v : Value) (ps : List PCE) : Prop where
  row : ∃ vs, Mine (KRN 2) e (fun k => base ≤ k ∧ ¬ G k) 0 0 w v vs ∧ PData G w vs ps
  g : ∀ k, G k → k < w.heap.size
  b : base ≤ w.heap.size
section
variable {e base : Nat} {G : Nat → Prop} {w w' : World} {v : Value} {ps : List PCE}
theorem PR.nil (e base : Nat) (w : World) (hb : base ≤ w.heap.size) : PR e base (fun _ => False) w (.slice none 0 0) [] := ⟨⟨[], Mine.nil _ _ _ _ _ _, trivial⟩, fun _ h => h.elim, hb⟩
theorem PR.ext (h : PR e base G w v ps) {T : Nat → Prop} (x : Ext T w w') (hT : ∀ k, T k → k < base ∧ ¬ G k) : PR e base G w' v ps := by
  obtain ⟨⟨vs, hM, hD⟩, hg, hb⟩ := h
  exact ⟨⟨vs, hM.ext x (by intro k h1 h2; omega) (fun k hk ht => by have := hT k ht; omega), hD.move (fun _ h => h) (fun k hk hl => x.keep k hl (fun ht => (hT k ht).2 hk))⟩, fun k hk => Nat.lt_of_lt_of_le (hg k hk) x.size, Nat.le_trans hb x.size⟩
theorem PR.keep (h : PR e base G w v ps) (x : Keep w w') : PR e base G w' v ps := h.ext x fun _ h => h.elim
/-- New blocks, or old ones, for bytes. -/
theorem PR.widen (h : PR e base G w v ps) (x : Keep w w') {H : Nat → Prop} (hH : ∀ k, H k → (w.heap.size ≤ k ∨ k < base) ∧ k < w'.heap.size) : PR e base (fun k => G k ∨ H k) w' v ps := by
  obtain ⟨⟨vs, hM, hD⟩, hg, hb⟩ := h
  refine ⟨⟨vs, (hM.mono (T := fun k => base ≤ k ∧ ¬ (G k ∨ H k)) fun k hk hS => ⟨hS.1, fun hq => hq.elim hS.2 fun hh => ?_⟩).keep x, hD.move (fun _ h => .inl h) (fun k _ hl => x.keep k hl id)⟩, fun k hk => hk.elim (fun h => Nat.lt_of_lt_of_le (hg k h) x.size) (fun h => (hH k h).2), Nat.le_trans hb x.size⟩
  have := (hH k hh).1
  omega
theorem PR.len (h : PR e base G w v ps) : ∃ A c, v = .slice A ps.length c ∧ ps.length ≤ c := by
  obtain ⟨⟨vs, hM, hD⟩, _, _⟩ := h
  obtain ⟨A, c, e1, h1, _⟩ := hM.slice
  rw [hD.len] at e1 h1
  exact ⟨A, c, e1, h1⟩
theorem PR.one (h : PR e base G w v ps) : v.oneCell' = true := by
  obtain ⟨A, c, rfl, _⟩ := h.len; rfl
/-- Read. -/
theorem PR.read (h : PR e base G w v ps) : ∃ A c, v = .slice A ps.length c ∧ ps.length ≤ c ∧ Sl KPc 0 w.heap.size w A ps.length ps := by
  obtain ⟨⟨vs, hM, hD⟩, _, _⟩ := h
  have q := hM.slF (KRN_flat 2) 0 (fun _ _ => Nat.zero_le _)
  obtain ⟨A, c, e1, h1, hs⟩ := q
  have hl := hD.len
  rw [hl] at e1 h1 hs
  refine ⟨A, c, e1, h1, rfl, hs.bound, fun hn => ?_⟩
  obtain ⟨ad, e2, g1, g2, hc⟩ := hs.at_ hn
  refine ⟨ad, e2, g1, g2, fun j p hp => ?_⟩
  obtain ⟨B, m, c', lo, hi, hv, hm, hS⟩ := hD.get hp
  obtain ⟨cs, ⟨r1, r2, r3⟩, hq⟩ := hc j _ hv
  injection r1 with r1
  have r1 : [Value.int .u8 (p.1.toNat : Int), .slice B m c'] = cs := by simpa using congrArg Array.toList r1
  subst r1
  exact ⟨_, ⟨[.int .u8 (p.1.toNat : Int)], [.slice B m c'], rfl, KB_R _ _ _ _, B, m, c', rfl, hm, hS.all KB_flat (by decide)⟩, hq⟩
theorem PR.rd2 (h : PR e base G w v ps) : ∃ vs A c, v = .slice A ps.length c ∧ ps.length ≤ c ∧ Sl (KRN 2) 0 w.heap.size w A ps.length vs ∧ PData G w vs ps := by
  obtain ⟨⟨vs, hM, hD⟩, _, _⟩ := h
  have q := hM.slF (KRN_flat 2) 0 (fun _ _ => Nat.zero_le _)
  obtain ⟨A, c, e1, h1, hs⟩ := q
  have hl := hD.len
  rw [hl] at e1 h1 hs
  exact ⟨vs, A, c, e1, h1, hs, hD⟩
theorem KRN2 {a b : Value} {lo hi : Nat} {w : World} {cs : List Value} (h : (KRN 2).R lo hi w (.agg #[a, b]) cs) : cs = [a, b] := by
  have h1 : Value.agg #[a, b] = .agg cs.toArray := h.1
  injection h1 with h1
  have := congrArg Array.toList h1
  simpa using this.symm
theorem reps1 {w : World} {a b : Value} (ha : a.oneCell' = true) (hb : b.oneCell' = true) : RepsV (KRN 2) w [.agg #[a, b]] [.agg #[a, b]] :=
  ⟨⟨[a, b], rfl, rfl, rfl, fun u hu => by simp at hu; rcases hu with rfl | rfl <;> assumption⟩, trivial⟩
/-- Pieces that came in, as values and what they hold. -/
theorem Sl.pieces {lo hi : Nat} {A : Option Addr} {n : Nat} (h : Sl KPc lo hi w A n ps) : ∃ vs, Sl (KRN 2) lo hi w A n vs ∧ PData (fun k => lo ≤ k ∧ k < hi) w vs ps := by
  have key : ∀ (ps : List PCE) (off : Nat), (∀ j p, ps[j]? = some p → ∃ B m c, m ≤ c ∧ Sl KB lo hi w B m p.2 ∧ ∀ ad, A = some ad → w.cell? (ad.add (off + j * 2)) = some (.int .u8 (p.1.toNat : Int)) ∧ w.cell? (ad.add (off + j * 2 + 1)) = some (.slice B m c)) →
      ∃ vs : List Value, PData (fun k => lo ≤ k ∧ k < hi) w vs ps ∧ (∀ j v, vs[j]? = some v → ∃ a b, v = .agg #[a, b] ∧ a.oneCell' = true ∧ b.oneCell' = true ∧ ∀ ad, A = some ad → w.cell? (ad.add (off + j * 2)) = some a ∧ w.cell? (ad.add (off + j * 2 + 1)) = some b) := by
    intro ps
    induction ps with
    | nil => intro off _; exact ⟨[], trivial, fun j v hv => by simp at hv⟩
    | cons p ps ih =>
      intro off hq
      obtain ⟨B, m, c, h1, h2, h3⟩ := hq 0 p rfl
      obtain ⟨vs, hr, hv⟩ := ih (off + 2) fun j y hy => by
        obtain ⟨B, m, c, g1, g2, g3⟩ := hq (j + 1) y (by simpa using hy)
        exact ⟨B, m, c, g1, g2, fun ad e => by have := g3 ad e; rwa [show off + (j + 1) * 2 = off + 2 + j * 2 by omega] at this⟩
      refine ⟨.agg #[.int .u8 (p.1.toNat : Int), .slice B m c] :: vs, ⟨⟨B, m, c, lo, hi, rfl, h1, fun _ a b => ⟨a, b⟩, h2⟩, hr⟩, fun j v hj => ?_⟩
      cases j with
      | zero =>
        simp only [List.getElem?_cons_zero, Option.some.injEq] at hj
        subst hj
        exact ⟨_, _, rfl, rfl, rfl, h3⟩
      | succ j =>
        simp only [List.getElem?_cons_succ] at hj
        obtain ⟨a, b, g1, g2, g3, g4⟩ := hv j v hj
        exact ⟨a, b, g1, g2, g3, fun ad e => by have := g4 ad e; rwa [show off + 2 + j * 2 = off + (j + 1) * 2 by omega] at this⟩
  obtain ⟨vs, hr, hv⟩ := key ps 0 fun j p hp => by
    obtain ⟨ad, cs, e1, ⟨a, b, rfl, ⟨rfl, _⟩, ⟨B, m, c, rfl, h1, h2⟩⟩, hq⟩ := h.get j p hp
    refine ⟨B, m, c, h1, h2, fun ad' e' => ?_⟩
    rw [e1] at e'
    cases e'
    have q0 := hq 0 _ rfl
    have q1 := hq 1 _ rfl
    have hz : KPc.sz = 2 := rfl
    rw [hz] at q0 q1
    exact ⟨by simpa using q0, by simpa using q1⟩
  refine ⟨vs, ⟨hr.len.trans h.len, h.bound, fun hn => ?_⟩, hr⟩
  obtain ⟨ad, e1, h1, h2, _⟩ := h.at_ hn
  refine ⟨ad, e1, h1, h2, fun j v hj => ?_⟩
  obtain ⟨a, b, g1, g2, g3, g4⟩ := hv j v hj
  subst g1
  have g := g4 ad e1
  rw [Nat.zero_add] at g
  refine ⟨[a, b], ⟨rfl, rfl, fun u hu => by simp at hu; rcases hu with rfl | rfl <;> assumption⟩, fun i u hu => ?_⟩
  have hz : (KRN 2).sz = 2 := rfl
  rw [hz]
  match i, hu with
  | 0, hu => simp at hu; subst hu; exact g.1
  | 1, hu => simp at hu; subst hu; exact g.2
end
section
variable {P : Program} {ρ : Operand → Value} {e base bytes : Nat} {G : Nat → Prop} {w : World} {v : Value} {ps : List PCE} {dst : Option Tmp} {ty : TypeId} {pos : String} {aft : Array Edge} {g : Option (Nat × Bool)}
/-- 'append(v, p)'. -/
theorem PR.appE {T : TypeId} {s x : Operand} {k : UInt8} {bs : List UInt8} {A B : Option Addr} {n c lo hi lo2 hi2 m c2 : Nat} (hR : PR e base G w v ps) (hT : P.underlying T = some (.slice e)) (hI : ElemInfo P e 2 bytes) (hs : ρ s = v) (hx : ρ x = .slice B m c2)
    (hL : Sl (KRN 2) lo2 hi2 w B m [.agg #[.int .u8 (k.toNat : Int), .slice A n c]]) (hnc : n ≤ c) (hG : ∀ k, lo ≤ k → k < hi → G k) (hS : Sl KB lo hi w A n bs) (hmax : (ps.length + 1) * bytes ≤ 140737488355328) :
    DoesE P ⟨dst, .call ⟨.builtin .append, #[s, x], #[T, T]⟩, ty, pos, aft, g⟩ ρ w fun v' w' => PR e base G w' v' (ps ++ [(k, bs)]) ∧ Ext (fun k => base ≤ k ∧ ¬ G k) w w' := by
  obtain ⟨⟨vs, hM, hD⟩, hg, hb⟩ := hR
  have hl := hD.len
  refine (X.appE (K := KRN 2) (S := fun k => base ≤ k ∧ ¬ G k) (KRN_flat 2) hT hI hs hx hM hL (by rw [hl]; exact hmax) (fun k hk => ⟨by omega, fun hq => by have := hg k hq; omega⟩)).mono fun v' w' ⟨h1, h2⟩ => ⟨⟨⟨_, h1, ?_⟩, fun k hk => Nat.lt_of_lt_of_le (hg k hk) h2.size, Nat.le_trans hb h2.size⟩, h2⟩
  exact (hD.app (us := [.agg #[.int .u8 (k.toNat : Int), .slice A n c]]) (qs := [(k, bs)]) ⟨⟨A, n, c, lo, hi, rfl, hnc, hG, hS⟩, trivial⟩).move (fun _ h => h) fun k hk hlt => h2.keep k hlt fun h => h.2 hk
end
end Go.Proofs.Ytgfficbkajcdpaa.X

namespace Go.Proofs.Ytgfficbkajcdpaa.X
open Go
set_option linter.unusedVariables false
set_option linter.unusedSimpArgs false

/-- Numbers. -/
def KNt : Kd Nat := Kd.plain 1 (fun c => [.int .i64 (c : Int)]) (fun _ => True) (fun _ => rfl) (fun _ u hu => by simp at hu; subst hu; rfl)
theorem KNt_flat : Flat KNt := fun h => h
theorem KNt_R (lo hi : Nat) (w : World) (y : Nat) : KNt.R lo hi w y [.int .i64 (y : Int)] := ⟨rfl, trivial⟩
theorem repsNt {w : World} (y : Nat) : RepsV KNt w [y] [.int .i64 (y : Int)] := ⟨⟨_, rfl, KNt_R 0 0 w y⟩, trivial⟩
section
variable {P : Program} {ρ : Operand → Value} {w : World} {dst : Option Tmp} {ty : TypeId} {pos : String} {aft : Array Edge} {g : Option (Nat × Bool)}
/-- 'append(v, x..)', the row's set told: it grows by the new blocks. -/
theorem appRow {α : Type} {K : Kd α} {e T : TypeId} {bytes : Nat} {S : Nat → Prop} {lo' hi' : Nat} {s x : Operand} {v : Value} {xs ys : List α} {A : Option Addr} {m c : Nat} (hF : Flat K) (hT : P.underlying T = some (.slice e)) (hI : ElemInfo P e K.sz bytes)
    (hs : ρ s = v) (hx : ρ x = .slice A m c) (hO : Mine K e S 0 0 w v xs) (hb : ∀ k, S k → k < w.heap.size) (hS : Sl K lo' hi' w A m ys) (hmax : (xs.length + ys.length) * bytes ≤ 140737488355328) :
    DoesE P ⟨dst, .call ⟨.builtin .append, #[s, x], #[T, T]⟩, ty, pos, aft, g⟩ ρ w fun v' w' => Mine K e (fun k => S k ∨ (w.heap.size ≤ k ∧ k < w'.heap.size)) 0 0 w' v' (xs ++ ys) ∧ Ext S w w' := by
  refine (appE (S := fun k => S k ∨ w.heap.size ≤ k) hF hT hI hs hx (hO.mono fun k _ h => .inl h) hS hmax (fun k h => .inr h)).mono fun v' w' ⟨h1, h2⟩ => ⟨h1.mono fun k hk h => h.elim .inl fun h => .inr ⟨h, hk⟩, ?_⟩
  exact h2.mono fun k hk h => h.elim id fun h => by omega
end

/-- Bytes, numbers and pieces (these with bytes in blocks below base), each in blocks of its own. -/
structure BK3 (tb ti tp base m1 m2 m3 : Nat) (S1 S2 S3 : Nat → Prop) (w : World) (va ve vp : Value) (la : List UInt8) (le : List Nat) (ps : List PCE) : Prop where
  a : Mine KB tb S1 0 0 w va la
  e : Mine KNt ti S2 0 0 w ve le
  p : ∃ vs, Mine (KRN 2) tp S3 0 0 w vp vs ∧ PData (fun k => k < base) w vs ps
  s1 : ∀ k, S1 k → base ≤ k ∧ k < m1
  s2 : ∀ k, S2 k → base ≤ k ∧ k < m2
  s3 : ∀ k, S3 k → base ≤ k ∧ k < m3
  l1 : m1 ≤ w.heap.size
  l2 : m2 ≤ w.heap.size
  l3 : m3 ≤ w.heap.size
  d12 : ∀ k, S1 k → ¬ S2 k
  d13 : ∀ k, S1 k → ¬ S3 k
  d23 : ∀ k, S2 k → ¬ S3 k
  b : base ≤ w.heap.size
section
variable {tb ti tp base m1 m2 m3 : Nat} {S1 S2 S3 : Nat → Prop} {w w' : World} {va ve vp : Value} {la : List UInt8} {le : List Nat} {ps : List PCE}
theorem BK3.nil (tb ti tp base m : Nat) (w : World) (hb : base ≤ w.heap.size) (hm : m ≤ w.heap.size) : BK3 tb ti tp base m m m (fun _ => False) (fun _ => False) (fun _ => False) w (.slice none 0 0) (.slice none 0 0) (.slice none 0 0) [] [] [] :=
  ⟨Mine.nil _ _ _ _ _ _, Mine.nil _ _ _ _ _ _, ⟨[], Mine.nil _ _ _ _ _ _, trivial⟩, fun _ h => h.elim, fun _ h => h.elim, fun _ h => h.elim, hm, hm, hm, fun _ h => h.elim, fun _ h => h.elim, fun _ h => h.elim, hb⟩
theorem BK3.keep (h : BK3 tb ti tp base m1 m2 m3 S1 S2 S3 w va ve vp la le ps) (x : Keep w w') : BK3 tb ti tp base m1 m2 m3 S1 S2 S3 w' va ve vp la le ps := by
  obtain ⟨a, e, ⟨vs, p, q⟩, s1, s2, s3, l1, l2, l3, d12, d13, d23, b⟩ := h
  have hz := x.size
  exact ⟨a.keep x, e.keep x, ⟨vs, p.keep x, q.move (fun _ h => h) fun k _ hk => x.keep k hk id⟩, s1, s2, s3, by omega, by omega, by omega, d12, d13, d23, by omega⟩
theorem BK3.ext (h : BK3 tb ti tp base m1 m2 m3 S1 S2 S3 w va ve vp la le ps) {T : Nat → Prop} (x : Ext T w w') (hT : ∀ k, T k → base ≤ k ∧ m1 ≤ k ∧ m2 ≤ k ∧ m3 ≤ k) : BK3 tb ti tp base m1 m2 m3 S1 S2 S3 w' va ve vp la le ps := by
  obtain ⟨a, e, ⟨vs, p, q⟩, s1, s2, s3, l1, l2, l3, d12, d13, d23, b⟩ := h
  have hz := x.size
  refine ⟨a.ext x (by intro k h1 h2; omega) ?_, e.ext x (by intro k h1 h2; omega) ?_, ⟨vs, p.ext x (by intro k h1 h2; omega) ?_, q.move (fun _ h => h) fun k hG hk => x.keep k hk ?_⟩, s1, s2, s3, by omega, by omega, by omega, d12, d13, d23, by omega⟩
  · intro k h1 h2; have := s1 k h1; have := hT k h2; omega
  · intro k h1 h2; have := s2 k h1; have := hT k h2; omega
  · intro k h1 h2; have := s3 k h1; have := hT k h2; omega
  · intro h2; have := hT k h2; have : k < base := hG; omega
/-- At a loop's head. -/
theorem BK3.all (h : BK3 tb ti tp base m1 m2 m3 S1 S2 S3 w va ve vp la le ps) : BK3 tb ti tp base w.heap.size w.heap.size w.heap.size S1 S2 S3 w va ve vp la le ps := by
  obtain ⟨a, e, p, s1, s2, s3, l1, l2, l3, d12, d13, d23, b⟩ := h
  exact ⟨a, e, p, fun k h => by have := s1 k h; omega, fun k h => by have := s2 k h; omega, fun k h => by have := s3 k h; omega, Nat.le_refl _, Nat.le_refl _, Nat.le_refl _, d12, d13, d23, b⟩
theorem BK3.rd (h : BK3 tb ti tp base m1 m2 m3 S1 S2 S3 w va ve vp la le ps) : ∃ A1 c1 A2 c2 A3 c3 vs, va = .slice A1 la.length c1 ∧ ve = .slice A2 le.length c2 ∧ vp = .slice A3 ps.length c3 ∧ la.length ≤ c1 ∧ le.length ≤ c2 ∧ ps.length ≤ c3 ∧
    Sl KB 0 w.heap.size w A1 la.length la ∧ Sl KNt 0 w.heap.size w A2 le.length le ∧ Sl (KRN 2) 0 w.heap.size w A3 ps.length vs ∧ PData (fun k => k < base) w vs ps := by
  obtain ⟨a, e, ⟨vs, p, q⟩, _⟩ := h
  obtain ⟨A1, c1, e1, g1, r1⟩ := a.slF KB_flat 0 (fun _ _ => Nat.zero_le _)
  obtain ⟨A2, c2, e2, g2, r2⟩ := e.slF KNt_flat 0 (fun _ _ => Nat.zero_le _)
  obtain ⟨A3, c3, e3, g3, r3⟩ := p.slF (KRN_flat 2) 0 (fun _ _ => Nat.zero_le _)
  have hl := q.len
  rw [hl] at e3 g3 r3
  exact ⟨A1, c1, A2, c2, A3, c3, vs, e1, e2, e3, g1, g2, g3, r1, r2, r3, q⟩
variable {P : Program} {ρ : Operand → Value} {dst : Option Tmp} {ty : TypeId} {pos : String} {aft : Array Edge} {g : Option (Nat × Bool)} {T : TypeId} {s x : Operand} {A : Option Addr} {n c lo hi bytes : Nat}
theorem BK3.appA {ys : List UInt8} (h : BK3 tb ti tp base m1 m2 m3 S1 S2 S3 w va ve vp la le ps) (hS : Sl KB lo hi w A n ys) (hT : P.underlying T = some (.slice tb)) (hI : ElemInfo P tb 1 bytes) (hs : ρ s = va) (hx : ρ x = .slice A n c) (hmax : (la.length + ys.length) * bytes ≤ 140737488355328) :
    DoesE P ⟨dst, .call ⟨.builtin .append, #[s, x], #[T, T]⟩, ty, pos, aft, g⟩ ρ w fun v' w' => ∃ A' c' S', v' = .slice A' (la ++ ys).length c' ∧ BK3 tb ti tp base w'.heap.size m2 m3 S' S2 S3 w' v' ve vp (la ++ ys) le ps ∧ Ext (fun k => base ≤ k ∧ k < m1) w w' := by
  obtain ⟨a, e, ⟨vs, p, q⟩, s1, s2, s3, l1, l2, l3, d12, d13, d23, b⟩ := h
  refine (appRow (K := KB) KB_flat hT hI hs hx a (fun k hk => by have := s1 k hk; omega) hS hmax).mono fun v' w' ⟨h1, h2⟩ => ?_
  obtain ⟨A', c', e1, _⟩ := h1.slice
  have hz := h2.size
  refine ⟨A', c', _, e1, ⟨h1, e.ext h2 (by intro k h1 h2; omega) (fun k h3 h4 => d12 k h4 h3), ⟨vs, p.ext h2 (by intro k h1 h2; omega) (fun k h3 h4 => d13 k h4 h3), q.move (fun _ h => h) fun k hG hk => h2.keep k hk fun h => ?_⟩, ?_, s2, s3, Nat.le_refl _, by omega, by omega, ?_, ?_, d23, by omega⟩, h2.mono fun k _ hk => s1 k hk⟩
  · have := s1 k h; have : k < base := hG; omega
  · rintro k (h | ⟨h, h'⟩)
    · have := s1 k h; omega
    · omega
  · rintro k (h | ⟨h, h'⟩) h3
    · exact d12 k h h3
    · have := s2 k h3; omega
  · rintro k (h | ⟨h, h'⟩) h3
    · exact d13 k h h3
    · have := s3 k h3; omega
theorem BK3.appN {ys : List Nat} (h : BK3 tb ti tp base m1 m2 m3 S1 S2 S3 w va ve vp la le ps) (hS : Sl KNt lo hi w A n ys) (hT : P.underlying T = some (.slice ti)) (hI : ElemInfo P ti 1 bytes) (hs : ρ s = ve) (hx : ρ x = .slice A n c) (hmax : (le.length + ys.length) * bytes ≤ 140737488355328) :
    DoesE P ⟨dst, .call ⟨.builtin .append, #[s, x], #[T, T]⟩, ty, pos, aft, g⟩ ρ w fun v' w' => ∃ A' c' S', v' = .slice A' (le ++ ys).length c' ∧ BK3 tb ti tp base m1 w'.heap.size m3 S1 S' S3 w' va v' vp la (le ++ ys) ps ∧ Ext (fun k => base ≤ k ∧ k < m2) w w' := by
  obtain ⟨a, e, ⟨vs, p, q⟩, s1, s2, s3, l1, l2, l3, d12, d13, d23, b⟩ := h
  refine (appRow (K := KNt) KNt_flat hT hI hs hx e (fun k hk => by have := s2 k hk; omega) hS hmax).mono fun v' w' ⟨h1, h2⟩ => ?_
  obtain ⟨A', c', e1, _⟩ := h1.slice
  have hz := h2.size
  refine ⟨A', c', _, e1, ⟨a.ext h2 (by intro k h1 h2; omega) (fun k h3 h4 => d12 k h3 h4), h1, ⟨vs, p.ext h2 (by intro k h1 h2; omega) (fun k h3 h4 => d23 k h4 h3), q.move (fun _ h => h) fun k hG hk => h2.keep k hk fun h => ?_⟩, s1, ?_, s3, by omega, Nat.le_refl _, by omega, ?_, d13, ?_, by omega⟩, h2.mono fun k _ hk => s2 k hk⟩
  · have := s2 k h; have : k < base := hG; omega
  · rintro k (h | ⟨h, h'⟩)
    · have := s2 k h; omega
    · omega
  · rintro k h3 (h | ⟨h, h'⟩)
    · exact d12 k h3 h
    · have := s1 k h3; omega
  · rintro k (h | ⟨h, h'⟩) h3
    · exact d23 k h h3
    · have := s3 k h3; omega
theorem BK3.appP {k : UInt8} {bs : List UInt8} {A2 : Option Addr} {n2 c2 lo2 hi2 : Nat} (h : BK3 tb ti tp base m1 m2 m3 S1 S2 S3 w va ve vp la le ps) (hS : Sl (KRN 2) lo hi w A n [.agg #[.int .u8 (k.toNat : Int), .slice A2 n2 c2]]) (hnc : n2 ≤ c2) (hB : hi2 ≤ base) (hD : Sl KB lo2 hi2 w A2 n2 bs) (hT : P.underlying T = some (.slice tp)) (hI : ElemInfo P tp 2 bytes) (hs : ρ s = vp) (hx : ρ x = .slice A n c) (hmax : (ps.length + 1) * bytes ≤ 140737488355328) :
    DoesE P ⟨dst, .call ⟨.builtin .append, #[s, x], #[T, T]⟩, ty, pos, aft, g⟩ ρ w fun v' w' => ∃ A' c' S', v' = .slice A' (ps.length + 1) c' ∧ BK3 tb ti tp base m1 m2 w'.heap.size S1 S2 S' w' va ve v' la le (ps ++ [(k, bs)]) ∧ Ext (fun k => base ≤ k ∧ k < m3) w w' := by
  obtain ⟨a, e, ⟨vs, p, q⟩, s1, s2, s3, l1, l2, l3, d12, d13, d23, b⟩ := h
  have hl := q.len
  refine (appRow (K := KRN 2) (KRN_flat 2) hT hI hs hx p (fun k hk => by have := s3 k hk; omega) hS (by rw [hl]; exact hmax)).mono fun v' w' ⟨h1, h2⟩ => ?_
  obtain ⟨A', c', e1, _⟩ := h1.slice
  have hz := h2.size
  rw [List.length_append, hl] at e1
  refine ⟨A', c', _, e1, ⟨a.ext h2 (by intro k h1 h2; omega) (fun k h3 h4 => d13 k h3 h4), e.ext h2 (by intro k h1 h2; omega) (fun k h3 h4 => d23 k h3 h4), ⟨_, h1, ?_⟩, s1, s2, ?_, by omega, by omega, Nat.le_refl _, d12, ?_, ?_, by omega⟩, h2.mono fun k _ hk => s3 k hk⟩
  · exact (q.app (us := [.agg #[.int .u8 (k.toNat : Int), .slice A2 n2 c2]]) (qs := [(k, bs)]) ⟨⟨A2, n2, c2, lo2, hi2, rfl, hnc, fun k _ h => by omega, hD⟩, trivial⟩).move (fun _ h => h) fun k hG hk => h2.keep k hk fun h => by have := s3 k h; have : k < base := hG; omega
  · rintro k (h | ⟨h, h'⟩)
    · have := s3 k h; omega
    · omega
  · rintro k h3 (h | ⟨h, h'⟩)
    · exact d13 k h3 h
    · have := s1 k h3; omega
  · rintro k h3 (h | ⟨h, h'⟩)
    · exact d23 k h3 h
    · have := s2 k h3; omega
end
end Go.Proofs.Ytgfficbkajcdpaa.X

namespace Go.Proofs.Ytgfficbkajcdpaa.X
open Go
set_option linter.unusedVariables false
set_option linter.unusedSimpArgs false

theorem reps_zeroN (lo hi : Nat) (w : World) : ∀ n, Reps KNt lo hi w (List.replicate n 0) (List.replicate n (.int .i64 0))
  | 0 => rfl
  | n + 1 => ⟨[.int .i64 0], _, rfl, KNt_R lo hi w 0, reps_zeroN lo hi w n⟩
theorem madeCells_listN (n : Nat) : (madeCells #[.int .i64 0] (n * 1)).toList = List.replicate n (.int .i64 0) := by
  apply List.ext_getElem
  · simp [madeCells]
  · intro i h1 h2
    simp [madeCells]
    rw [show i % 1 = 0 by omega]; rfl
structure IntInfo (P : Program) (e : Nat) : Prop where
  ex : ∃ i, P.info? e = some i ∧ i.zero = some (.int .i64 0) ∧ i.size = 1 ∧ i.bytes = 8
theorem IntInfo.of {P : Program} {e : Nat} (h : (P.info? e).map (fun i => (i.zero, i.size, i.bytes)) = some (some (.int .i64 0), 1, 8)) : IntInfo P e := by
  obtain ⟨i, hi, hq⟩ := Option.map_eq_some_iff.1 h
  simp only [Prod.mk.injEq] at hq
  exact ⟨i, hi, hq.1, hq.2.1, hq.2.2⟩
theorem reps_setN {lo hi : Nat} {w : World} {y : Nat} : ∀ {xs : List Nat} {cs : List Value} (j : Nat), Reps KNt lo hi w xs cs → Reps KNt lo hi w (xs.set j y) (cs.set j (.int .i64 (y : Int)))
  | [], cs, j, h => by
    have : cs = [] := h
    subst this; exact rfl
  | x :: xs, cs, j, ⟨a, b, e, h1, h2⟩ => by
    have ha : a = [.int .i64 (x : Int)] := h1.1
    subst ha
    subst e
    cases j with
    | zero => exact ⟨[.int .i64 (y : Int)], b, rfl, KNt_R lo hi w y, h2⟩
    | succ j => exact ⟨[.int .i64 (x : Int)], _, rfl, h1, reps_setN j h2⟩
section
variable {P : Program} {ρ : Operand → Value} {w : World} {dst : Option Tmp} {ty : TypeId} {pos : String} {aft : Array Edge} {g : Option (Nat × Bool)}
/-- 'make([]int, n)'. -/
theorem mkN {T e : TypeId} {S : Nat → Prop} {x y : Operand} {kx ky : IntKind} {n : Nat} (hT : P.underlying T = some (.slice e)) (hI : IntInfo P e) (hx : ρ x = .int kx (n : Int)) (hy : ρ y = .int ky (n : Int)) (hn : n ≤ 1000000) (hS : S w.heap.size) :
    DoesE P ⟨dst, .makeSlice T x y, ty, pos, aft, g⟩ ρ w fun v w' => v = .slice (some ⟨w.heap.size, 0, none⟩) n n ∧ Sl KNt 0 w'.heap.size w' (some ⟨w.heap.size, 0, none⟩) n (List.replicate n 0) ∧ Mine KNt e S 0 0 w' v (List.replicate n 0) ∧ Keep w w' ∧ w.heap.size < w'.heap.size := by
  obtain ⟨i, h1, h2, h3, h4⟩ := hI
  obtain ⟨w', q1, q2, q3⟩ := run_make_full (P := P) w 0 T e i (.int .i64 0) 1 hT h1 h2 h3 kx ky n (by rw [h4]; omega) (by simp only [maxLen]; omega) (Nat.zero_le _)
  have hz : (Value.int .i64 0).cells = #[.int .i64 0] := rfl
  rw [hz, madeCells_listN] at q2
  have hM : Mine KNt e S 0 0 w' (.slice (some ⟨w.heap.size, 0, none⟩) n n) (List.replicate n 0) := ⟨some w.heap.size, ⟨⟨_, reps_zeroN 0 0 w' n, by rw [List.length_replicate]; exact q2⟩, rfl⟩, fun k hk => by cases hk; exact hS⟩
  have hlt : w.heap.size < w'.heap.size := Own.lt (K := KNt) (e := e) (lo := 0) (hi := 0) (v := .slice (some ⟨w.heap.size, 0, none⟩) n n) (xs := List.replicate n 0) ⟨⟨_, reps_zeroN 0 0 w' n, by rw [List.length_replicate]; exact q2⟩, rfl⟩ _ rfl
  have hSl : Sl KNt 0 w'.heap.size w' (some ⟨w.heap.size, 0, none⟩) n (List.replicate n 0) := by
    obtain ⟨A, c, e1, _, hs⟩ := hM.slF KNt_flat 0 (fun _ _ => Nat.zero_le _)
    injection e1 with e2 e3 e4
    rw [← e2, ← e3] at hs
    exact hs
  refine (does_run (w' := w') rfl (by simp only [execOp, hx, hy]; simp [q1])).e ⟨rfl, hSl, hM, ⟨q3.os, q3.tape, q3.output, q3.size, fun k hk _ => q3.block k hk (by simp)⟩, hlt⟩
theorem storeMN {T e : TypeId} {S : Nat → Prop} {a x : Operand} {A : Option Addr} {n c j : Nat} {xs : List Nat} {y : Nat} (hs : ∀ w, (sizeOf T).run P w = .ok 1 w) (hM : Mine KNt e S 0 0 w (.slice A n c) xs) (hj : j < xs.length) (ha : ρ a = .pointer (some ((A.getD default).add (j * 1)))) (hx : ρ x = .int .i64 (y : Int)) :
    DoesE P ⟨none, .store T a x, ty, pos, aft, g⟩ ρ w fun _ w' => Mine KNt e S 0 0 w' (.slice A n c) (xs.set j y) ∧ Ext S w w' ∧ w'.heap.size = w.heap.size := by
  obtain ⟨b, ⟨⟨cs, hr, hrow⟩, hbb⟩, hb⟩ := hM
  have hl : cs.length = xs.length * 1 := hrow.1
  rcases hrow.2 with ⟨_, hn⟩ | ⟨g', cap, cur, he, hbg, hg, hnc, hcm, hcs, htake⟩
  · omega
  · injection he with e1 e2 e3
    subst e1
    have hcs : cur.size = cap * 1 := hcs
    have hi : j < cur.size := by omega
    rw [show (Option.getD (some (⟨g', 0, none⟩ : Addr)) default).add (j * 1) = ⟨g', j, none⟩ by rw [show j * 1 = j by omega]; show (⟨g', 0, none⟩ : Addr).add j = _; rw [add_mk, Nat.zero_add]] at ha
    have hc : w.cell? ⟨g', j, none⟩ = some (cur[j]'hi) := by rw [cell_of_row w g' j cur e (0, 0) hg]; exact Array.getElem?_eq_getElem hi
    have hf : w.frozen? ⟨g', j, none⟩ = false := frozen_of_row w g' j cur e hg
    have hst : (store ⟨g', j, none⟩ (.int .i64 (y : Int))).run P w = .ok () (w.setCell ⟨g', j, none⟩ (.int .i64 (y : Int))) := by simp [store, Sem.run, hc, hf]
    have hSg : S g' := hb g' (by rw [← hbb]; rfl)
    refine (does_skip (w' := w.setCell ⟨g', j, none⟩ (.int .i64 (y : Int))) rfl ?_).e ⟨⟨some g', ⟨⟨cs.set j (.int .i64 (y : Int)), reps_setN j (hr.flat KNt_flat), ?_⟩, rfl⟩, fun k hk => by cases hk; exact hSg⟩, (Ext.setCell w ⟨g', j, none⟩ _).mono (fun k _ hk => by rw [show k = g' from hk]; exact hSg), by simp⟩
    · simp only [execOp, ha, hx, Instr.storeAt, Instr.sureAddr, storeVar, Value.cells]
      simp [hs, storeCells, add_zero, hst]
    · refine ⟨by rw [List.length_set, List.length_set]; exact hl, .inr ⟨g', cap, cur.set! j (.int .i64 (y : Int)), ?_, hbg, ?_, by rw [List.length_set]; exact hnc, hcm, by rw [show KNt.sz = 1 from rfl]; simp [hcs], ?_⟩⟩
      · rw [List.length_set, e2, e3]
      · have := heap_setCell_same w g' j cur e (.int .i64 (y : Int)) hg
        simpa using this
      · rw [List.length_set]
        have : (cur.set! j (Value.int .i64 (y : Int))).toList = cur.toList.set j (.int .i64 (y : Int)) := by simp
        rw [this, List.take_set, htake]
end
end Go.Proofs.Ytgfficbkajcdpaa.X

namespace Go.Proofs.Ytgfficbkajcdpaa
open Go Go.Proofs.Ytgfficbkajcdpaa.X
set_option linter.unusedVariables false
set_option linter.unusedSimpArgs false
def LL (ls : List (List TH)) : Nat → List TH := fun j => ls.getD j []
def DL (ls : List (List TH)) (ats : List Nat) : Nat → List TH := fun j => (ls.getD j []).drop (ats.getD j 0)
theorem DL_at {ls : List (List TH)} {ats : List Nat} {j a : Nat} {l : List TH} (h1 : ls[j]? = some l) (h2 : ats[j]? = some a) : DL ls ats j = l.drop a := by
  simp [DL, h1, h2]
theorem DL_zero (ls : List (List TH)) (n : Nat) : DL ls (List.replicate n 0) = LL ls := by
  funext j
  have : (List.replicate n 0).getD j 0 = 0 := by
    rw [List.getD_eq_getElem?_getD, List.getElem?_replicate]; split <;> rfl
  rw [DL, this, List.drop_zero]; rfl
theorem DL_set {ls : List (List TH)} {ats : List Nat} {b ab : Nat} (h : ats[b]? = some ab) : DL ls (ats.set b (ab + 1)) = updL (DL ls ats) b := by
  funext j
  obtain ⟨hb, hb2⟩ := List.getElem?_eq_some_iff.1 h
  by_cases e : j = b
  · subst e
    simp [DL, updL, hb, hb2]
  · simp [DL, updL, e, List.getElem?_set, show ¬ b = j from fun h => e h.symm]
def bI : PK → Int
  | none => -1
  | some (i, _) => (i : Int)
theorem bI_lt {o : PK} (h : bI o < 0) : o = none := by
  cases o with
  | none => rfl
  | some q => obtain ⟨i, x⟩ := q; simp only [bI] at h; omega
theorem bI_ge {o : PK} (h : ¬ bI o < 0) : ∃ i x, o = some (i, x) := by
  cases o with
  | none => exact absurd (by decide) h
  | some q => exact ⟨q.1, q.2, rfl⟩
theorem mine_at {e b : Nat} {A : Option Addr} {n c : Nat} {xs : List Nat} {w : World} (h : Mine KNt e (fun k => k = b) 0 0 w (.slice A n c) xs) : Sl KNt b (b + 1) w A n xs := by
  obtain ⟨A', c', e1, _, hs⟩ := (h.flat KNt_flat (lo' := b) (hi' := b + 1)).sl (fun k hk hs => by have hs : k = b := hs; omega)
  injection e1 with e1 e2 e3
  rw [e1, e2]; exact hs
theorem head_drop {l : List TH} {a : Nat} {y : TH} {t : List TH} (h : l.drop a = y :: t) : l[a]? = some y := by
  have := congrArg (fun l => l[0]?) h
  simpa using this
theorem INF : IntInfo Try.prog 3 := IntInfo.of (by kernel_rfl)
-- f25 "pedigree/pedigreeref09.Merge" params [22] results [24] -> [(ResultVar.tmp 2)] nfree 0 ntmps 75 names [
set_option maxHeartbeats 4000000 in
set_option maxRecDepth 100000 in
theorem RMerge_c {lo hi lo2 hi2 : Nat} {A : Option Addr} {n c : Nat} {vs : List Value} {ls : List (List TH)} (w : World) (hs : Sl KR1 lo hi w A n vs) (hr : SlRows KTh lo2 hi2 w vs ls) (hhi : hi ≤ w.heap.size) (hhi2 : hi2 ≤ w.heap.size) (hn : n ≤ 1000) (htl : totL (LL ls) n ≤ 1000000) : Ret Try.prog 25 #[.slice A n c] w fun r w' => Fresh KTh 29 w w' r (mgC n (LL ls)) := by
  have hl := hs.len
  have hrl := hr.len
  refine X.enter Try.func25 rfl Try.ntmps25 rfl ?_
  refine X.seq ?_
  refine X.region ?_
  refine X.opw X.wN rfl (X.assign rfl) ?_
  refine X.opsEnd ?_
  refine X.seq ?_
  refine X.region ?_
  refine X.opw X.wN rfl (X.move (v := .slice _ _ _) rfl) ?_
  refine X.opw X.wN rfl (X.lenSl Try.underlying22 rfl) ?_
  refine X.opE X.wN rfl (X.mkN (n := n) (S := fun k => k = w.heap.size) Try.underlying54 INF rfl rfl (by omega) rfl) ?_
  rintro _ w1 ⟨rfl, hs1, hM1, hk1, hz1⟩
  refine X.opw X.wN rfl (X.assign (v := .slice _ _ _) rfl) ?_
  refine X.opsEnd ?_
  refine X.seq ?_
  refine X.region ?_
  refine X.opw X.wN rfl (X.assign rfl) ?_
  refine X.opsEnd ?_
  refine X.block ?_
  -- LOOP live: 0=l, 3=heads, 4=out*
  refine X.loopL (σ := List Nat × Value × List TH) (fun s => [(0, .slice A n c), (3, .slice (some ⟨w.heap.size, 0, none⟩) n n), (4, s.2.1)]) (fun s w' => s.1.length = n ∧ s.2.2.length + totL (DL ls s.1) n = totL (LL ls) n ∧ s.2.2 ++ mgC n (DL ls s.1) = mgC n (LL ls) ∧ Mine KNt 3 (fun k => k = w.heap.size) 0 0 w' (.slice (some ⟨w.heap.size, 0, none⟩) n n) s.1 ∧ Mine KTh 29 (fun k => w.heap.size < k) 0 0 w' s.2.1 s.2.2 ∧ Keep w w' ∧ w.heap.size < w'.heap.size) (fun s => totL (DL ls s.1) n) (List.replicate n 0, _, []) ⟨rfl, rfl, rfl, trivial⟩ ⟨List.length_replicate, by rw [DL_zero]; simp, by rw [DL_zero]; rfl, hM1, Mine.nil _ _ _ _ _ _, hk1, by omega⟩ ?_
  rintro ⟨ats, v, out⟩ b0 wl ⟨hal, htot, ho, hMa, hM0, hk, hwl⟩ hback
  dsimp only
  simp only at hal htot ho hMa hM0
  have hk' := hk.size
  have hsa := mine_at hMa
  refine X.block ?_
  refine X.seq ?_
  refine X.region ?_
  refine X.opw X.wN rfl (X.assign rfl) ?_
  refine X.opsEnd ?_
  refine X.seq ?_
  refine X.seq ?_
  refine X.region ?_
  refine X.opw X.wN rfl (X.assign rfl) ?_
  refine X.opsEnd ?_
  refine X.block ?_
  -- LOOP live: 0=l, 3=heads, 4=out, 5=best*, 6=i*
  refine X.loopL (σ := Nat) (fun s => [(0, .slice A n c), (3, .slice (some ⟨w.heap.size, 0, none⟩) n n), (4, v), (5, .int .i64 (bI (pk (DL ls ats) s))), (6, .int .i64 (s : Int))]) (fun s w' => s ≤ n ∧ Keep wl w' ∧ Keep w w') (fun s => n - s) 0 ⟨rfl, rfl, rfl, rfl, rfl, trivial⟩ ⟨Nat.zero_le _, Keep.refl _, hk⟩ ?_
  rintro i b2 wm ⟨hi, hwm, hkm⟩ hback2
  have hkm' := hkm.size
  have hwm' := hwm.size
  refine X.seq ?_
  refine X.seq ?_
  refine X.region ?_
  refine X.opw X.wN rfl (X.move (v := .int .i64 _) rfl) ?_
  refine X.opw X.wN rfl (X.move (v := .slice _ _ _) rfl) ?_
  refine X.opw X.wN rfl (X.lenSl Try.underlying22 rfl) ?_
  refine X.opP X.wN rfl rfl (X.lss rfl rfl) (fun h13 => ?_) (fun h13 => ?_)
  · obtain ⟨ai, hai⟩ : ∃ ai, ats[i]? = some ai := ⟨ats[i]'(by omega), List.getElem?_eq_getElem (by omega)⟩
    obtain ⟨vi, hvi⟩ : ∃ vi, vs[i]? = some vi := ⟨vs[i]'(by omega), List.getElem?_eq_getElem (by omega)⟩
    obtain ⟨li, Ai, ni, ci, hli, rfl, hnci, hsi⟩ := hr.get hvi
    have hDi := DL_at hli hai
    have hlil := hsi.len
    have hlib := hsi.bound
    refine X.opsEnd ?_
    refine X.condT rfl ?_
    refine X.skip ?_
    refine X.seq ?_
    refine X.block ?_
    refine X.seq ?_
    refine X.seq ?_
    refine X.regionD (fun k => w.heap.size < k) 10 (by kernel_rfl) (by kernel_rfl) (fun w2 hk2 hz2 => ?_)
    refine X.dTake 0 rfl (by kernel_rfl) (by kernel_rfl) (by kernel_rfl) (X.dwN rfl) (fun w' hk' => X.move (v := .slice _ _ _) rfl) ?_
    refine X.dTake 1 rfl (by kernel_rfl) (by kernel_rfl) (by kernel_rfl) (X.dwN rfl) (fun w' hk' => X.move (v := .int .i64 _) rfl) ?_
    refine X.dTake 2 rfl (by kernel_rfl) (by kernel_rfl) (by kernel_rfl) (X.dwN rfl) (fun w' hk' => X.idxS (((hsa.keep hwm).keep hk2).ext hk' (by intros; (try simp only []); omega)) Try.underlying54 Try.sizeOf3 rfl rfl ⟨by omega, by omega⟩) ?_
    refine X.dTake 3 rfl (by kernel_rfl) (by kernel_rfl) (by kernel_rfl) (X.dwN rfl) (fun w' hk' => X.loadS Try.isAgg3 (((hsa.keep hwm).keep hk2).ext hk' (by intros; (try simp only []); omega)) hai rfl (fun _ h => by rw [h.1]; rfl)) ?_
    refine X.dTake 4 rfl (by kernel_rfl) (by kernel_rfl) (by kernel_rfl) (X.dwN rfl) (fun w' hk' => X.move (v := .slice _ _ _) rfl) ?_
    refine X.dTake 5 rfl (by kernel_rfl) (by kernel_rfl) (by kernel_rfl) (X.dwN rfl) (fun w' hk' => X.move (v := .int .i64 _) rfl) ?_
    refine X.dTake 6 rfl (by kernel_rfl) (by kernel_rfl) (by kernel_rfl) (X.dwN rfl) (fun w' hk' => X.idxS (hs.keep ((hkm.trans hk2).step hk' (by intros; (try simp only [] at *); omega))) Try.underlying22 Try.sizeOf24 rfl rfl ⟨by omega, by omega⟩) ?_
    refine X.dTake 7 rfl (by kernel_rfl) (by kernel_rfl) (by kernel_rfl) (X.dwN rfl) (fun w' hk' => X.loadS Try.isAgg24 (hs.keep ((hkm.trans hk2).step hk' (by intros; (try simp only [] at *); omega))) hvi rfl (fun _ h => by rw [h.1]; rfl)) ?_
    refine X.dTake 8 rfl (by kernel_rfl) (by kernel_rfl) (by kernel_rfl) (X.dwN rfl) (fun w' hk' => X.lenSl Try.underlying24 rfl) ?_
    refine X.dTake 9 rfl (by kernel_rfl) (by kernel_rfl) (by kernel_rfl) (X.dwN rfl) (fun w' hk' => X.geq rfl rfl) ?_
    refine X.dEnd (by kernel_rfl) ?_
    refine X.condB rfl (fun hc => ?_) (fun hc => ?_)
    · have hDn : DL ls ats i = [] := by rw [hDi, List.drop_of_length_le (by simp at hc; omega)]
      refine X.exit rfl ?_
      refine X.region ?_
      refine X.opw X.wN rfl (X.move (v := .int .i64 _) rfl) ?_
      refine X.opw X.wN rfl (X.add rfl rfl (X.w_i64 (by omega))) ?_
      refine X.opw X.wN rfl (X.assign (v := .int .i64 _) rfl) ?_
      refine X.opsEnd ?_
      have hpk := pk_nil hDn
      refine hback2 (i + 1) _ _ ⟨(by first | rfl | (rw [hpk]; rfl)), (by first | rfl | (rw [hpk]; rfl)), (by first | rfl | (rw [hpk]; rfl)), (by first | rfl | (rw [hpk]; rfl)), (by first | rfl | (rw [hpk]; rfl)), trivial⟩ ⟨by omega, (hwm.trans hk2), (hkm.trans hk2)⟩ (by omega)
    · obtain ⟨x, hx⟩ := get2 ai hlil (by simp at hc; omega)
      have hDx : DL ls ats i = x :: li.drop (ai + 1) := by rw [hDi, drop_at hx]
      have hailt := (List.getElem?_eq_some_iff.1 hx).1
      refine X.skip ?_
      refine X.seq ?_
      refine X.regionD (fun k => w.heap.size < k) 26 (by kernel_rfl) (by kernel_rfl) (fun w3 hk3 hz3 => ?_)
      refine X.dTake 0 rfl (by kernel_rfl) (by kernel_rfl) (by kernel_rfl) (X.dwN rfl) (fun w' hk' => X.move (v := .int .i64 _) rfl) ?_
      refine X.dTake 1 rfl (by kernel_rfl) (by kernel_rfl) (by kernel_rfl) (X.dwN rfl) (fun w' hk' => X.lss rfl rfl) ?_
      refine X.dTake 2 rfl (by kernel_rfl) (by kernel_rfl) (by kernel_rfl) (X.dwN rfl) (fun w' hk' => X.move (v := .bool _) rfl) ?_
      refine X.dFork 28 rfl (fun h28 => ?_) (fun h28 => ?_)
      · have hob : pk (DL ls ats) i = none := bI_lt (of_decide_eq_true h28)
        refine X.dTakeS 3 rfl (by kernel_rfl) (by kernel_rfl) (by kernel_rfl) rfl rfl rfl rfl ?_
        refine X.dTakeS 4 rfl (by kernel_rfl) (by kernel_rfl) (by kernel_rfl) rfl rfl rfl rfl ?_
        refine X.dTakeS 5 rfl (by kernel_rfl) (by kernel_rfl) (by kernel_rfl) rfl rfl rfl rfl ?_
        refine X.dTakeS 6 rfl (by kernel_rfl) (by kernel_rfl) (by kernel_rfl) rfl rfl rfl rfl ?_
        refine X.dTakeS 7 rfl (by kernel_rfl) (by kernel_rfl) (by kernel_rfl) rfl rfl rfl rfl ?_
        refine X.dTakeS 8 rfl (by kernel_rfl) (by kernel_rfl) (by kernel_rfl) rfl rfl rfl rfl ?_
        refine X.dTakeS 9 rfl (by kernel_rfl) (by kernel_rfl) (by kernel_rfl) rfl rfl rfl rfl ?_
        refine X.dTakeS 10 rfl (by kernel_rfl) (by kernel_rfl) (by kernel_rfl) rfl rfl rfl rfl ?_
        refine X.dTakeS 11 rfl (by kernel_rfl) (by kernel_rfl) (by kernel_rfl) rfl rfl rfl rfl ?_
        refine X.dTakeS 12 rfl (by kernel_rfl) (by kernel_rfl) (by kernel_rfl) rfl rfl rfl rfl ?_
        refine X.dTakeS 13 rfl (by kernel_rfl) (by kernel_rfl) (by kernel_rfl) rfl rfl rfl rfl ?_
        refine X.dTakeS 14 rfl (by kernel_rfl) (by kernel_rfl) (by kernel_rfl) rfl rfl rfl rfl ?_
        refine X.dTakeS 15 rfl (by kernel_rfl) (by kernel_rfl) (by kernel_rfl) rfl rfl rfl rfl ?_
        refine X.dTakeS 16 rfl (by kernel_rfl) (by kernel_rfl) (by kernel_rfl) rfl rfl rfl rfl ?_
        refine X.dTakeS 17 rfl (by kernel_rfl) (by kernel_rfl) (by kernel_rfl) rfl rfl rfl rfl ?_
        refine X.dSkip (i := 18) (by kernel_rfl) rfl rfl rfl rfl rfl ?_
        refine X.dSkip (i := 19) (by kernel_rfl) rfl rfl rfl rfl rfl ?_
        refine X.dSkip (i := 20) (by kernel_rfl) rfl rfl rfl rfl rfl ?_
        refine X.dSkip (i := 21) (by kernel_rfl) rfl rfl rfl rfl rfl ?_
        refine X.dSkip (i := 22) (by kernel_rfl) rfl rfl rfl rfl rfl ?_
        refine X.dSkip (i := 23) (by kernel_rfl) rfl rfl rfl rfl rfl ?_
        refine X.dSkip (i := 24) (by kernel_rfl) rfl rfl rfl rfl rfl ?_
        refine X.dTake 25 rfl (by kernel_rfl) (by kernel_rfl) (by kernel_rfl) (X.dwN rfl) (fun w' hk' => X.pickT (v := .bool true) rfl rfl) ?_
        refine X.dEnd (by kernel_rfl) ?_
        refine X.condT rfl ?_
        refine X.region ?_
        refine X.opw X.wN rfl (X.move (v := .int .i64 _) rfl) ?_
        refine X.opw X.wN rfl (X.assign (v := .int .i64 _) rfl) ?_
        refine X.opsEnd ?_
        refine X.inBlock ?_
        refine X.region ?_
        refine X.opw X.wN rfl (X.move (v := .int .i64 _) rfl) ?_
        refine X.opw X.wN rfl (X.add rfl rfl (X.w_i64 (by omega))) ?_
        refine X.opw X.wN rfl (X.assign (v := .int .i64 _) rfl) ?_
        refine X.opsEnd ?_
        have hpk := pk_new hDx (.inl hob)
        refine hback2 (i + 1) _ _ ⟨(by first | rfl | (rw [hpk]; rfl)), (by first | rfl | (rw [hpk]; rfl)), (by first | rfl | (rw [hpk]; rfl)), (by first | rfl | (rw [hpk]; rfl)), (by first | rfl | (rw [hpk]; rfl)), trivial⟩ ⟨by omega, ((hwm.trans hk2).trans hk3), ((hkm.trans hk2).trans hk3)⟩ (by omega)
      · obtain ⟨b, y, hob⟩ := bI_ge (of_decide_eq_false h28)
        obtain ⟨lb0, hbn, tb, hDb0⟩ : ∃ lb0 : Nat, b < n ∧ ∃ tb, DL ls ats b = y :: tb := by
          obtain ⟨q1, q2, q3⟩ := pk_some hob
          exact ⟨0, by omega, q2, q3⟩
        obtain ⟨ab, hab⟩ : ∃ ab, ats[b]? = some ab := ⟨ats[b]'(by omega), List.getElem?_eq_getElem (by omega)⟩
        obtain ⟨vb, hvb⟩ : ∃ vb, vs[b]? = some vb := ⟨vs[b]'(by omega), List.getElem?_eq_getElem (by omega)⟩
        obtain ⟨lb, Ab, nb, cb, hlb, rfl, hncb, hsb⟩ := hr.get hvb
        have hDb := DL_at hlb hab
        rw [hDb0] at hDb
        have hy := head_drop hDb.symm
        have hylt := (List.getElem?_eq_some_iff.1 hy).1
        have hlbl := hsb.len
        have hlbb := hsb.bound
        rw [hob, show bI (some (b, y)) = (b : Int) from rfl]
        refine X.dTake 3 rfl (by kernel_rfl) (by kernel_rfl) (by kernel_rfl) (X.dwG rfl rfl rfl) (fun w' hk' => X.move (v := .slice _ _ _) rfl) ?_
        refine X.dTake 4 rfl (by kernel_rfl) (by kernel_rfl) (by kernel_rfl) (X.dwG rfl rfl rfl) (fun w' hk' => X.move (v := .int .i64 _) rfl) ?_
        refine X.dTake 5 rfl (by kernel_rfl) (by kernel_rfl) (by kernel_rfl) (X.dwG rfl rfl rfl) (fun w' hk' => X.idxS (hs.keep (((hkm.trans hk2).trans hk3).step hk' (by intros; (try simp only [] at *); omega))) Try.underlying22 Try.sizeOf24 rfl rfl ⟨by omega, by omega⟩) ?_
        refine X.dTake 6 rfl (by kernel_rfl) (by kernel_rfl) (by kernel_rfl) (X.dwG rfl rfl rfl) (fun w' hk' => X.loadS Try.isAgg24 (hs.keep (((hkm.trans hk2).trans hk3).step hk' (by intros; (try simp only [] at *); omega))) hvi rfl (fun _ h => by rw [h.1]; rfl)) ?_
        refine X.dTake 7 rfl (by kernel_rfl) (by kernel_rfl) (by kernel_rfl) (X.dwG rfl rfl rfl) (fun w' hk' => X.move (v := .slice _ _ _) rfl) ?_
        refine X.dTake 8 rfl (by kernel_rfl) (by kernel_rfl) (by kernel_rfl) (X.dwG rfl rfl rfl) (fun w' hk' => X.move (v := .int .i64 _) rfl) ?_
        refine X.dTake 9 rfl (by kernel_rfl) (by kernel_rfl) (by kernel_rfl) (X.dwG rfl rfl rfl) (fun w' hk' => X.idxS (((hsa.keep hwm).keep (hk2.trans hk3)).ext hk' (by intros; (try simp only []); omega)) Try.underlying54 Try.sizeOf3 rfl rfl ⟨by omega, by omega⟩) ?_
        refine X.dTake 10 rfl (by kernel_rfl) (by kernel_rfl) (by kernel_rfl) (X.dwG rfl rfl rfl) (fun w' hk' => X.loadS Try.isAgg3 (((hsa.keep hwm).keep (hk2.trans hk3)).ext hk' (by intros; (try simp only []); omega)) hai rfl (fun _ h => by rw [h.1]; rfl)) ?_
        refine X.dTake 11 rfl (by kernel_rfl) (by kernel_rfl) (by kernel_rfl) (X.dwG rfl rfl rfl) (fun w' hk' => X.idxS (hsi.keep (((hkm.trans hk2).trans hk3).step hk' (by intros; (try simp only [] at *); omega))) Try.underlying24 Try.sizeOf29 rfl rfl ⟨by omega, by omega⟩) ?_
        refine X.dTake 12 rfl (by kernel_rfl) (by kernel_rfl) (by kernel_rfl) (X.dwG rfl rfl rfl) (fun w' hk' => X.loadSN Try.isAgg29 Try.sizeOf29 (hsi.keep (((hkm.trans hk2).trans hk3).step hk' (by intros; (try simp only [] at *); omega))) hx rfl (fun _ h => h.1) rfl) ?_
        refine X.dTake 13 rfl (by kernel_rfl) (by kernel_rfl) (by kernel_rfl) (X.dwG rfl rfl rfl) (fun w' hk' => X.move (v := .slice _ _ _) rfl) ?_
        refine X.dTake 14 rfl (by kernel_rfl) (by kernel_rfl) (by kernel_rfl) (X.dwG rfl rfl rfl) (fun w' hk' => X.move (v := .int .i64 _) rfl) ?_
        refine X.dTake 15 rfl (by kernel_rfl) (by kernel_rfl) (by kernel_rfl) (X.dwG rfl rfl rfl) (fun w' hk' => X.idxS (hs.keep (((hkm.trans hk2).trans hk3).step hk' (by intros; (try simp only [] at *); omega))) Try.underlying22 Try.sizeOf24 rfl rfl ⟨by omega, by omega⟩) ?_
        refine X.dTake 16 rfl (by kernel_rfl) (by kernel_rfl) (by kernel_rfl) (X.dwG rfl rfl rfl) (fun w' hk' => X.loadS Try.isAgg24 (hs.keep (((hkm.trans hk2).trans hk3).step hk' (by intros; (try simp only [] at *); omega))) hvb rfl (fun _ h => by rw [h.1]; rfl)) ?_
        refine X.dTake 17 rfl (by kernel_rfl) (by kernel_rfl) (by kernel_rfl) (X.dwG rfl rfl rfl) (fun w' hk' => X.move (v := .slice _ _ _) rfl) ?_
        refine X.dTake 18 rfl (by kernel_rfl) (by kernel_rfl) (by kernel_rfl) (X.dwG rfl rfl rfl) (fun w' hk' => X.move (v := .int .i64 _) rfl) ?_
        refine X.dTake 19 rfl (by kernel_rfl) (by kernel_rfl) (by kernel_rfl) (X.dwG rfl rfl rfl) (fun w' hk' => X.idxS (((hsa.keep hwm).keep (hk2.trans hk3)).ext hk' (by intros; (try simp only []); omega)) Try.underlying54 Try.sizeOf3 rfl rfl ⟨by omega, by omega⟩) ?_
        refine X.dTake 20 rfl (by kernel_rfl) (by kernel_rfl) (by kernel_rfl) (X.dwG rfl rfl rfl) (fun w' hk' => X.loadS Try.isAgg3 (((hsa.keep hwm).keep (hk2.trans hk3)).ext hk' (by intros; (try simp only []); omega)) hab rfl (fun _ h => by rw [h.1]; rfl)) ?_
        refine X.dTake 21 rfl (by kernel_rfl) (by kernel_rfl) (by kernel_rfl) (X.dwG rfl rfl rfl) (fun w' hk' => X.idxS (hsb.keep (((hkm.trans hk2).trans hk3).step hk' (by intros; (try simp only [] at *); omega))) Try.underlying24 Try.sizeOf29 rfl rfl ⟨by omega, by omega⟩) ?_
        refine X.dTake 22 rfl (by kernel_rfl) (by kernel_rfl) (by kernel_rfl) (X.dwG rfl rfl rfl) (fun w' hk' => X.loadSN Try.isAgg29 Try.sizeOf29 (hsb.keep (((hkm.trans hk2).trans hk3).step hk' (by intros; (try simp only [] at *); omega))) hy rfl (fun _ h => h.1) rfl) ?_
        refine X.dE (i := 23) (by kernel_rfl) rfl (X.dwG rfl rfl rfl) (X.callE (Compare_c x y _) Try.call17 rfl rfl) (by rintro _ w4 ⟨nc4, rfl, hlt4, hgt4, hk4⟩ _; exact hk4.mono (fun _ _ h => h.elim)) ?_
        rintro _ w4 ⟨nc4, rfl, hlt4, hgt4, hk4⟩
        have hk4' := hk4.size
        refine X.dTake 24 rfl (by kernel_rfl) (by kernel_rfl) (by kernel_rfl) (X.dwG rfl rfl rfl) (fun w' hk' => X.lss rfl rfl) ?_
        refine X.dTake 25 rfl (by kernel_rfl) (by kernel_rfl) (by kernel_rfl) (X.dwN rfl) (fun w' hk' => X.pickF (v := .bool _) rfl rfl) ?_
        refine X.dEnd (by kernel_rfl) ?_
        refine X.condB rfl (fun hc => ?_) (fun hc => ?_)
        · have hxy : x.1 < (bestX (pk (DL ls ats) i)).1 := by rw [hob]; exact hlt4.1 (by simpa using hc)
          refine X.region ?_
          refine X.opw X.wN rfl (X.move (v := .int .i64 _) rfl) ?_
          refine X.opw X.wN rfl (X.assign (v := .int .i64 _) rfl) ?_
          refine X.opsEnd ?_
          refine X.inBlock ?_
          refine X.region ?_
          refine X.opw X.wN rfl (X.move (v := .int .i64 _) rfl) ?_
          refine X.opw X.wN rfl (X.add rfl rfl (X.w_i64 (by omega))) ?_
          refine X.opw X.wN rfl (X.assign (v := .int .i64 _) rfl) ?_
          refine X.opsEnd ?_
          have hpk := pk_new hDx (.inr hxy)
          refine hback2 (i + 1) _ _ ⟨(by first | rfl | (rw [hpk]; rfl)), (by first | rfl | (rw [hpk]; rfl)), (by first | rfl | (rw [hpk]; rfl)), (by first | rfl | (rw [hpk]; rfl)), (by first | rfl | (rw [hpk]; rfl)), trivial⟩ ⟨by omega, (((hwm.trans hk2).trans hk3).trans hk4), (((hkm.trans hk2).trans hk3).trans hk4)⟩ (by omega)
        · have hxy : ¬ x.1 < (bestX (pk (DL ls ats) i)).1 := by rw [hob]; intro h; have := hlt4.2 h; simp at hc; omega
          refine X.skip ?_
          refine X.inBlock ?_
          refine X.region ?_
          refine X.opw X.wN rfl (X.move (v := .int .i64 _) rfl) ?_
          refine X.opw X.wN rfl (X.add rfl rfl (X.w_i64 (by omega))) ?_
          refine X.opw X.wN rfl (X.assign (v := .int .i64 _) rfl) ?_
          refine X.opsEnd ?_
          have hpk := (pk_old hDx (by rw [hob]; simp) hxy).trans hob
          refine hback2 (i + 1) _ _ ⟨(by first | rfl | (rw [hpk]; rfl)), (by first | rfl | (rw [hpk]; rfl)), (by first | rfl | (rw [hpk]; rfl)), (by first | rfl | (rw [hpk]; rfl)), (by first | rfl | (rw [hpk]; rfl)), trivial⟩ ⟨by omega, (((hwm.trans hk2).trans hk3).trans hk4), (((hkm.trans hk2).trans hk3).trans hk4)⟩ (by omega)
  · have hin : i = n := by omega
    refine X.opsEnd ?_
    refine X.condF rfl ?_
    refine X.exit rfl ?_
    refine X.seq ?_
    refine X.seq ?_
    refine X.region ?_
    refine X.opw X.wN rfl (X.move (v := .int .i64 _) rfl) ?_
    refine X.opP X.wN rfl rfl (X.lss rfl rfl) (fun h54 => ?_) (fun h54 => ?_)
    · refine X.opsEnd ?_
      refine X.condT rfl ?_
      refine X.seq ?_
      refine X.region ?_
      refine X.opw X.wN rfl (X.move rfl) ?_
      refine X.opw X.wN rfl (X.assign rfl) ?_
      refine X.opsEnd ?_
      refine X.ret1 Try.func25 Try.results25 rfl ?_
      have e := bI_lt h54
      rw [hin] at e
      rw [mgC_none e, List.append_nil] at ho
      rw [ho] at hM0
      exact ⟨((hM0.keep hwm)).mono (fun k _ h => by (try simp only [] at *); omega), hkm⟩
    · obtain ⟨b, y, hob⟩ := bI_ge h54
      rw [hin] at hob
      rw [hin]
      obtain ⟨lb0, hbn, tb, hDb0⟩ : ∃ lb0 : Nat, b < n ∧ ∃ tb, DL ls ats b = y :: tb := by
        obtain ⟨q1, q2, q3⟩ := pk_some hob
        exact ⟨0, by omega, q2, q3⟩
      obtain ⟨ab, hab⟩ : ∃ ab, ats[b]? = some ab := ⟨ats[b]'(by omega), List.getElem?_eq_getElem (by omega)⟩
      obtain ⟨vb, hvb⟩ : ∃ vb, vs[b]? = some vb := ⟨vs[b]'(by omega), List.getElem?_eq_getElem (by omega)⟩
      obtain ⟨lb, Ab, nb, cb, hlb, rfl, hncb, hsb⟩ := hr.get hvb
      have hDb := DL_at hlb hab
      rw [hDb0] at hDb
      have hy := head_drop hDb.symm
      have hylt := (List.getElem?_eq_some_iff.1 hy).1
      have hlbl := hsb.len
      have hlbb := hsb.bound
      rw [hob, show bI (some (b, y)) = (b : Int) from rfl]
      refine X.opsEnd ?_
      refine X.condF rfl ?_
      refine X.skip ?_
      refine X.seq ?_
      refine X.regionD (fun k => w.heap.size < k) 13 (by kernel_rfl) (by kernel_rfl) (fun w5 hk5 hz5 => ?_)
      refine X.dTake 0 rfl (by kernel_rfl) (by kernel_rfl) (by kernel_rfl) (X.dwN rfl) (fun w' hk' => X.move rfl) ?_
      refine X.dTake 1 rfl (by kernel_rfl) (by kernel_rfl) (by kernel_rfl) (X.dwN rfl) (fun w' hk' => X.move (v := .slice _ _ _) rfl) ?_
      refine X.dTake 2 rfl (by kernel_rfl) (by kernel_rfl) (by kernel_rfl) (X.dwN rfl) (fun w' hk' => X.move (v := .int .i64 _) rfl) ?_
      refine X.dTake 3 rfl (by kernel_rfl) (by kernel_rfl) (by kernel_rfl) (X.dwN rfl) (fun w' hk' => X.idxS (hs.keep ((hkm.trans hk5).step hk' (by intros; (try simp only [] at *); omega))) Try.underlying22 Try.sizeOf24 rfl rfl ⟨by omega, by omega⟩) ?_
      refine X.dTake 4 rfl (by kernel_rfl) (by kernel_rfl) (by kernel_rfl) (X.dwN rfl) (fun w' hk' => X.loadS Try.isAgg24 (hs.keep ((hkm.trans hk5).step hk' (by intros; (try simp only [] at *); omega))) hvb rfl (fun _ h => by rw [h.1]; rfl)) ?_
      refine X.dTake 5 rfl (by kernel_rfl) (by kernel_rfl) (by kernel_rfl) (X.dwN rfl) (fun w' hk' => X.move (v := .slice _ _ _) rfl) ?_
      refine X.dTake 6 rfl (by kernel_rfl) (by kernel_rfl) (by kernel_rfl) (X.dwN rfl) (fun w' hk' => X.move (v := .int .i64 _) rfl) ?_
      refine X.dTake 7 rfl (by kernel_rfl) (by kernel_rfl) (by kernel_rfl) (X.dwN rfl) (fun w' hk' => X.idxS (((hsa.keep hwm).keep hk5).ext hk' (by intros; (try simp only []); omega)) Try.underlying54 Try.sizeOf3 rfl rfl ⟨by omega, by omega⟩) ?_
      refine X.dTake 8 rfl (by kernel_rfl) (by kernel_rfl) (by kernel_rfl) (X.dwN rfl) (fun w' hk' => X.loadS Try.isAgg3 (((hsa.keep hwm).keep hk5).ext hk' (by intros; (try simp only []); omega)) hab rfl (fun _ h => by rw [h.1]; rfl)) ?_
      refine X.dTake 9 rfl (by kernel_rfl) (by kernel_rfl) (by kernel_rfl) (X.dwN rfl) (fun w' hk' => X.idxS (hsb.keep ((hkm.trans hk5).step hk' (by intros; (try simp only [] at *); omega))) Try.underlying24 Try.sizeOf29 rfl rfl ⟨by omega, by omega⟩) ?_
      refine X.dTake 10 rfl (by kernel_rfl) (by kernel_rfl) (by kernel_rfl) (X.dwN rfl) (fun w' hk' => X.loadSN Try.isAgg29 Try.sizeOf29 (hsb.keep ((hkm.trans hk5).step hk' (by intros; (try simp only [] at *); omega))) hy rfl (fun _ h => h.1) rfl) ?_
      refine X.dE (i := 11) (by kernel_rfl) rfl (X.dwN rfl) (X.litKF KTh_flat (K := KTh) (xs := [Operand.tmp 66]) (vs := [evT y]) (ys := [y]) Try.underlying24 Try.sizeOf29 Try.zeroValue29 rfl rfl rfl rfl rfl (repsT y)) (by rintro _ w6 ⟨rfl, hs6, hB6, hk6, hz6⟩ _; exact hk6.mono (fun _ _ h => h.elim)) ?_
      rintro _ w6 ⟨rfl, hs6, hB6, hk6, hz6⟩
      refine X.dE (i := 12) (by kernel_rfl) rfl (X.dwN rfl) (X.appE (K := KTh) (S := fun k => w.heap.size < k) KTh_flat Try.underlying24 ETh rfl rfl ((hM0.keep hwm).keep (hk5.trans hk6)) hs6 (by (try simp only [List.length_append, List.length_cons, List.length_nil, List.length_take, List.length_drop, List.length_map, List.length_range]); omega) (by intros; (try simp only [] at *); omega)) (by rintro v7 w7 ⟨hM7, hx7⟩ _; exact hx7.mono (fun k _ h => by (try simp only [] at *); omega)) ?_
      rintro v7 w7 ⟨hM7, hx7⟩
      have hx7' := hx7.size
      refine X.dStep (i := 13) (by kernel_rfl) rfl (X.dwN rfl) (X.assign rfl) (fun h => absurd h (by decide)) ?_
      refine X.dEnd (by kernel_rfl) ?_
      refine X.region ?_
      refine X.opw X.wN rfl (X.move (v := .slice _ _ _) rfl) ?_
      refine X.opw X.wN rfl (X.move (v := .int .i64 _) rfl) ?_
      refine X.opw X.wN rfl (X.idxS (((hsa.keep hwm).keep (hk5.trans hk6)).ext hx7 (by intros; (try simp only []); omega)) Try.underlying54 Try.sizeOf3 rfl rfl ⟨by omega, by omega⟩) ?_
      refine X.opw X.wN rfl (X.loadS Try.isAgg3 (((hsa.keep hwm).keep (hk5.trans hk6)).ext hx7 (by intros; (try simp only []); omega)) hab rfl (fun _ h => by rw [h.1]; rfl)) ?_
      refine X.opw X.wN rfl (X.add (c := ((ab + 1 : Nat) : Int)) rfl rfl (by rw [X.w_i64 (by omega)]; omega)) ?_
      refine X.opw X.wN rfl (X.idxS (((hsa.keep hwm).keep (hk5.trans hk6)).ext hx7 (by intros; (try simp only []); omega)) Try.underlying54 Try.sizeOf3 rfl rfl ⟨by omega, by omega⟩) ?_
      refine X.opE X.wN rfl (X.storeMN (j := b) (y := ab + 1) Try.sizeOf3 (((hMa.keep hwm).keep (hk5.trans hk6)).ext hx7 (by intros; (try simp only []); omega) (by intros; (try simp only []); omega)) (by omega) rfl rfl) ?_
      rintro _ w8 ⟨hM8, hx8, hz8⟩
      refine X.opsEnd ?_
      refine X.inBlock ?_
      have htu := totL_upd hDb0 n
      rw [if_pos hbn] at htu
      have hset := DL_set (ls := ls) hab
      refine hback (ats.set b (ab + 1), _, out ++ [y]) _ _ ⟨rfl, rfl, rfl, trivial⟩ ⟨by dsimp only; rw [List.length_set]; exact hal, by dsimp only; rw [hset, List.length_append, List.length_singleton]; omega, by dsimp only; rw [hset, ← ho, mgC_some hob]; simp, hM8, (hM7.ext hx8 (by intros; (try simp only []); omega) (by intros; (try simp only []); omega)), ((((hkm.trans hk5).trans hk6).step hx7 (by intros; (try simp only [] at *); omega)).step hx8 (by intros; (try simp only [] at *); omega)), by omega⟩ (by dsimp only; rw [hset]; omega)
end Go.Proofs.Ytgfficbkajcdpaa

namespace Go.Proofs.Ytgfficbkajcdpaa
open Go Go.Proofs.Ytgfficbkajcdpaa.X
set_option linter.unusedVariables false
set_option linter.unusedSimpArgs false
theorem ERw : ElemInfo Try.prog 24 1 24 := ElemInfo.of (z := .slice none 0 0) (by kernel_rfl) rfl rfl rfl
theorem EIf : ElemInfo Try.prog 33 1 16 := ElemInfo.of (z := .nilIface) (by kernel_rfl) rfl rfl rfl
theorem rows_snoc {lo hi : Nat} {w : World} : ∀ {vs : List Value} {ls : List (List TH)} {A : Option Addr} {n c : Nat} {l : List TH}, SlRows KTh lo hi w vs ls → n ≤ c → Sl KTh lo hi w A n l → SlRows KTh lo hi w (vs ++ [.slice A n c]) (ls ++ [l])
  | [], [], _, _, _, _, _, h1, h2 => ⟨⟨_, _, _, rfl, h1, h2⟩, trivial⟩
  | _ :: _, _ :: _, _, _, _, _, h, h1, h2 => ⟨h.1, rows_snoc h.2 h1 h2⟩
  | [], _ :: _, _, _, _, _, h, _, _ => h.elim
  | _ :: _, [], _, _, _, _, h, _, _ => h.elim
theorem getV {vs : List Value} {n : Nat} (i : Nat) (h : vs.length = n) (hi : i < n) : ∃ v, vs[i]? = some v := ⟨vs[i]'(by omega), List.getElem?_eq_getElem (by omega)⟩
-- f12 "pedigree/pedigreelaw09.cut" params [22] results [22] -> [(ResultVar.tmp 2)] nfree 0 ntmps 24 names ["l
set_option maxHeartbeats 4000000 in
set_option maxRecDepth 100000 in
theorem cut_c {lo hi lo2 hi2 : Nat} {A : Option Addr} {n c : Nat} {vs : List Value} {ls : List (List TH)} (w : World) (hs : Sl KR1 lo hi w A n vs) (hr : SlRows KTh lo2 hi2 w vs ls) (hhi2 : hi2 ≤ w.heap.size) : Ret Try.prog 12 #[.slice A n c] w fun r w' => ∃ us qs A' c', r = .slice A' us.length c' ∧ us.length ≤ c' ∧ Sl KR1 0 w'.heap.size w' A' us.length us ∧ SlRows KTh lo2 hi2 w' us qs ∧ us.length = us.length ∧ us.length ≤ 6 ∧ (∀ l ∈ qs, l.length ≤ 30) ∧ Keep w w' := by
  have hl := hs.len
  have hrl := hr.len
  refine X.enter Try.func12 rfl Try.ntmps12 rfl ?_
  refine X.seq ?_
  refine X.region ?_
  refine X.opw X.wN rfl (X.assign rfl) ?_
  refine X.opsEnd ?_
  refine X.seq ?_
  refine X.region ?_
  refine X.opw X.wN rfl (X.assign rfl) ?_
  refine X.opsEnd ?_
  refine X.seq ?_
  refine X.seq ?_
  refine X.region ?_
  refine X.opw X.wN rfl (X.assign rfl) ?_
  refine X.opsEnd ?_
  refine X.block ?_
  -- LOOP live: 0=l, 3=out*, 4=i*
  refine X.loopL (σ := Nat × Value × List Value × List (List TH)) (fun s => [(0, .slice A n c), (3, s.2.1), (4, .int .i64 (s.1 : Int))]) (fun s w' => s.1 ≤ n ∧ s.1 ≤ 6 ∧ s.2.2.1.length = s.1 ∧ (∀ l ∈ s.2.2.2, l.length ≤ 30) ∧ Mine KR1 24 (fun k => w.heap.size ≤ k) 0 0 w' s.2.1 s.2.2.1 ∧ SlRows KTh lo2 hi2 w' s.2.2.1 s.2.2.2 ∧ Keep w w') (fun s => n - s.1) (0, _, [], []) ⟨rfl, rfl, rfl, trivial⟩ ⟨Nat.zero_le _, Nat.zero_le _, rfl, fun l h => by simp at h, Mine.nil _ _ _ _ _ _, trivial, (Keep.refl _)⟩ ?_
  rintro ⟨i, v, us, qs⟩ b0 wl ⟨hi, hi6, hul, hqs, hM0, hrw, hk⟩ hback
  dsimp only
  simp only at hi hi6 hul hqs hM0 hrw
  have hk' := hk.size
  refine X.seq ?_
  refine X.seq ?_
  refine X.region ?_
  refine X.opw X.wN rfl (X.move (v := .int .i64 _) rfl) ?_
  refine X.opw X.wN rfl (X.move (v := .slice _ _ _) rfl) ?_
  refine X.opw X.wN rfl (X.lenSl Try.underlying22 rfl) ?_
  refine X.opP X.wN rfl rfl (X.lss rfl rfl) (fun h8 => ?_) (fun h8 => ?_)
  · refine X.opw X.wN rfl (X.move (v := .bool true) rfl) ?_
    refine X.opw (X.wG rfl rfl rfl) rfl (X.move (v := .int .i64 _) rfl) ?_
    refine X.opP (X.wG rfl rfl rfl) rfl rfl (X.lss rfl rfl) (fun h11 => ?_) (fun h11 => ?_)
    · obtain ⟨vi, hvi⟩ := getV i hl (by omega)
      obtain ⟨li, Ai, ni, ci, hli, rfl, hnci, hsi⟩ := hr.get hvi
      refine X.opw X.wN rfl (X.pickT (v := .bool true) rfl rfl) ?_
      refine X.opsEnd ?_
      refine X.condT rfl ?_
      refine X.skip ?_
      refine X.seq ?_
      refine X.block ?_
      refine X.region ?_
      refine X.opw X.wN rfl (X.move rfl) ?_
      refine X.opw X.wN rfl (X.move (v := .slice _ _ _) rfl) ?_
      refine X.opw X.wN rfl (X.move (v := .int .i64 _) rfl) ?_
      refine X.opw X.wN rfl (X.idxS (hs.keep hk) Try.underlying22 Try.sizeOf24 rfl rfl ⟨by omega, by omega⟩) ?_
      refine X.opw X.wN rfl (X.loadS Try.isAgg24 (hs.keep hk) hvi rfl (fun _ h => by rw [h.1]; rfl)) ?_
      refine X.opE X.wN rfl (X.callE (short_c _ (hsi.keep hk) (by omega)) Try.call19 rfl rfl) ?_
      rintro _ w1 ⟨m1, rfl, hmc1, hm31, hs1, hk1⟩
      have hk1' := hk1.size
      refine X.opE X.wN rfl (X.litKF KR1_flat (K := KR1) (xs := [Operand.tmp 20]) (vs := [.slice Ai m1 ci]) (ys := [.slice Ai m1 ci]) Try.underlying22 Try.sizeOf24 Try.zeroValue24 rfl rfl rfl rfl rfl (reps_1 rfl rfl)) ?_
      rintro _ w2 ⟨rfl, hs2, hB2, hk2, hz2⟩
      refine X.opE X.wN rfl (X.appE (K := KR1) (S := fun k => w.heap.size ≤ k) KR1_flat Try.underlying22 ERw rfl rfl (hM0.keep (hk1.trans hk2)) hs2 (by (try simp only [List.length_append, List.length_cons, List.length_nil, List.length_take, List.length_drop, List.length_map, List.length_range]); omega) (by intros; (try simp only [] at *); omega)) ?_
      rintro v3 w3 ⟨hM3, hx3⟩
      have hx3' := hx3.size
      refine X.opw X.wN rfl (X.assign rfl) ?_
      refine X.opsEnd ?_
      refine X.inBlock ?_
      refine X.region ?_
      refine X.opw X.wN rfl (X.move (v := .int .i64 _) rfl) ?_
      refine X.opw X.wN rfl (X.add rfl rfl (X.w_i64 (by omega))) ?_
      refine X.opw X.wN rfl (X.assign (v := .int .i64 _) rfl) ?_
      refine X.opsEnd ?_
      refine hback (i + 1, _, us ++ [.slice Ai m1 ci], qs ++ [li.take 30]) _ _ ⟨rfl, rfl, rfl, trivial⟩ ⟨by dsimp only; omega, by dsimp only; omega, by dsimp only; rw [List.length_append, hul]; rfl, fun l h => (List.mem_append.1 h).elim (hqs l) (fun h => by rw [List.mem_singleton.1 h, List.length_take]; omega), hM3, rows_snoc (SlRows.ext hx3 (by intro k h1 h2; (try simp only []); omega) (SlRows.keep hk2 (SlRows.keep hk1 hrw))) (by omega) ((hs1.keep hk2).ext hx3 (by intros; (try simp only []); omega)), (((hk.trans hk1).trans hk2).step hx3 (by intros; (try simp only [] at *); omega))⟩ (by dsimp only; omega)
    · refine X.opw X.wN rfl (X.pickT (v := .bool false) rfl rfl) ?_
      refine X.opsEnd ?_
      refine X.condF rfl ?_
      refine X.exit rfl ?_
      refine X.seq ?_
      refine X.region ?_
      refine X.opw X.wN rfl (X.move rfl) ?_
      refine X.opw X.wN rfl (X.assign rfl) ?_
      refine X.opsEnd ?_
      refine X.ret1 Try.func12 Try.results12 rfl ?_
      obtain ⟨A', c', e, hc', hs'⟩ := hM0.slF KR1_flat 0 (fun _ _ => Nat.zero_le _)
      exact ⟨us, qs, A', c', e, hc', hs', hrw, rfl, by omega, hqs, hk⟩
  · refine X.opw X.wN rfl (X.move (v := .bool false) rfl) ?_
    refine X.opS rfl rfl rfl rfl rfl ?_
    refine X.opS rfl rfl rfl rfl rfl ?_
    refine X.opw X.wN rfl (X.pickF (v := .bool false) rfl rfl) ?_
    refine X.opsEnd ?_
    refine X.condF rfl ?_
    refine X.exit rfl ?_
    refine X.seq ?_
    refine X.region ?_
    refine X.opw X.wN rfl (X.move rfl) ?_
    refine X.opw X.wN rfl (X.assign rfl) ?_
    refine X.opsEnd ?_
    refine X.ret1 Try.func12 Try.results12 rfl ?_
    obtain ⟨A', c', e, hc', hs'⟩ := hM0.slF KR1_flat 0 (fun _ _ => Nat.zero_le _)
    exact ⟨us, qs, A', c', e, hc', hs', hrw, rfl, by omega, hqs, hk⟩
-- f18 "pedigree/pedigreelaw09.cursors" params [22] results [36] -> [(ResultVar.tmp 2)] nfree 0 ntmps 20 names
set_option maxHeartbeats 4000000 in
set_option maxRecDepth 100000 in
theorem cursors_c {lo hi lo2 hi2 : Nat} {A : Option Addr} {n c : Nat} {vs : List Value} {ls : List (List TH)} (w : World) (hs : Sl KR1 lo hi w A n vs) (hr : SlRows KTh lo2 hi2 w vs ls) (hn : n ≤ 1000) (hhi2 : hi2 ≤ w.heap.size) (hls : ∀ l ∈ ls, l.length ≤ 30) : Ret Try.prog 18 #[.slice A n c] w fun r w' => ∃ (cs : List Value) (A' : Option Addr) (c' : Nat) (Tj : Nat → Nat → Prop), r = .slice A' n c' ∧ n ≤ c' ∧ Sl KR1 0 w'.heap.size w' A' n cs ∧ (∀ j, j < n → ∀ k, Tj j k → w.heap.size ≤ k ∧ k < w'.heap.size) ∧ (∀ i j, i < n → j < n → i ≠ j → ∀ k, Tj i k → ¬ Tj j k) ∧ (∀ (j : Nat) y, cs[j]? = some y → CV w.heap.size (Tj j) y (LL ls j) w') ∧ Keep w w' := by
  have hl := hs.len
  have hrl := hr.len
  refine X.enter Try.func18 rfl Try.ntmps18 rfl ?_
  refine X.seq ?_
  refine X.region ?_
  refine X.opw X.wN rfl (X.assign rfl) ?_
  refine X.opsEnd ?_
  refine X.seq ?_
  refine X.region ?_
  refine X.opw X.wN rfl (X.assign rfl) ?_
  refine X.opsEnd ?_
  refine X.seq ?_
  refine X.seq ?_
  refine X.region ?_
  refine X.opw X.wN rfl (X.assign rfl) ?_
  refine X.opsEnd ?_
  refine X.block ?_
  -- LOOP live: 0=l, 3=out*, 4=i*
  refine X.loopL (σ := Nat × Value × List Value × List (Nat × Nat)) (fun s => [(0, .slice A n c), (3, s.2.1), (4, .int .i64 (s.1 : Int))]) (fun s w' => s.1 ≤ n ∧ s.2.2.1.length = s.1 ∧ s.2.2.2.length = s.1 ∧ Mine KR1 33 (fun k => w.heap.size ≤ k ∧ ∀ p, p ∈ s.2.2.2 → ¬ (p.1 ≤ k ∧ k < p.2)) 0 0 w' s.2.1 s.2.2.1 ∧ (∀ (j : Nat) y (p : Nat × Nat), s.2.2.1[j]? = some y → s.2.2.2[j]? = some p → CV w.heap.size (fun k => p.1 ≤ k ∧ k < p.2) y (LL ls j) w') ∧ (∀ p, p ∈ s.2.2.2 → w.heap.size ≤ p.1 ∧ p.2 ≤ w'.heap.size) ∧ s.2.2.2.Pairwise (fun p q => p.2 ≤ q.1) ∧ Keep w w') (fun s => n - s.1) (0, _, [], []) ⟨rfl, rfl, rfl, trivial⟩ ⟨Nat.zero_le _, rfl, rfl, Mine.nil _ _ _ _ _ _, fun j y p h => by simp at h, fun p h => by simp at h, List.Pairwise.nil, (Keep.refl _)⟩ ?_
  rintro ⟨i, v, cs, tb⟩ b0 wl ⟨hi, hcl, htl, hM0, hcv, htb, hpw, hk⟩ hback
  dsimp only
  simp only at hi hcl htl hM0 hcv htb hpw
  have hk' := hk.size
  refine X.seq ?_
  refine X.seq ?_
  refine X.region ?_
  refine X.opw X.wN rfl (X.move (v := .int .i64 _) rfl) ?_
  refine X.opw X.wN rfl (X.move (v := .slice _ _ _) rfl) ?_
  refine X.opw X.wN rfl (X.lenSl Try.underlying22 rfl) ?_
  refine X.opP X.wN rfl rfl (X.lss rfl rfl) (fun h8 => ?_) (fun h8 => ?_)
  · obtain ⟨vi, hvi⟩ := getV i hl (by omega)
    obtain ⟨li, Ai, ni, ci, hli, rfl, hnci, hsi⟩ := hr.get hvi
    have hlen30 := hls li (List.mem_of_getElem? hli)
    have hlil := hsi.len
    refine X.opsEnd ?_
    refine X.condT rfl ?_
    refine X.skip ?_
    refine X.seq ?_
    refine X.block ?_
    refine X.region ?_
    refine X.opw X.wN rfl (X.move rfl) ?_
    refine X.opw X.wN rfl (X.move (v := .slice _ _ _) rfl) ?_
    refine X.opw X.wN rfl (X.move (v := .int .i64 _) rfl) ?_
    refine X.opw X.wN rfl (X.idxS (hs.keep hk) Try.underlying22 Try.sizeOf24 rfl rfl ⟨by omega, by omega⟩) ?_
    refine X.opw X.wN rfl (X.loadS Try.isAgg24 (hs.keep hk) hvi rfl (fun _ h => by rw [h.1]; rfl)) ?_
    refine X.opE X.wN rfl (X.callE (Of_c w.heap.size _ (hsi.keep hk) (by omega) (by omega)) Try.call20 rfl rfl) ?_
    rintro _ w1 ⟨bm1, rfl, hC1, hk1⟩
    have hk1' := hk1.size
    refine X.opE X.wN rfl (X.litKF KR1_flat (K := KR1) (xs := [Operand.tmp 16]) (vs := [.iface 84 (.pointer (some ⟨bm1, 0, none⟩))]) (ys := [.iface 84 (.pointer (some ⟨bm1, 0, none⟩))]) Try.underlying36 Try.sizeOf33 Try.zeroValue33 rfl rfl rfl rfl rfl (reps_1 rfl rfl)) ?_
    rintro _ w2 ⟨rfl, hs2, hB2, hk2, hz2⟩
    have htb2 : ∀ p, p ∈ tb ++ [(wl.heap.size, w1.heap.size)] → w.heap.size ≤ p.1 ∧ p.2 ≤ w2.heap.size := fun p hp => (List.mem_append.1 hp).elim (fun h => by have := htb p h; omega) (fun h => by rw [List.mem_singleton.1 h]; (try simp only []); omega)
    refine X.opE X.wN rfl (X.appE (K := KR1) (S := fun k => w.heap.size ≤ k ∧ ∀ p, p ∈ (tb ++ [(wl.heap.size, w1.heap.size)]) → ¬ (p.1 ≤ k ∧ k < p.2)) KR1_flat Try.underlying36 EIf rfl rfl ((hM0.mono (T := fun k => w.heap.size ≤ k ∧ ∀ p, p ∈ (tb ++ [(wl.heap.size, w1.heap.size)]) → ¬ (p.1 ≤ k ∧ k < p.2)) (fun k hk hs => ⟨hs.1, fun p hp => (List.mem_append.1 hp).elim (hs.2 p) (fun hp => by rw [List.mem_singleton.1 hp]; (try simp only []); omega)⟩)).keep (hk1.trans hk2)) hs2 (by (try simp only [List.length_singleton]); omega) (fun k hk => ⟨by omega, fun p hp h => by have := htb2 p hp; omega⟩)) ?_
    rintro v3 w3 ⟨hM3, hx3⟩
    have hx3' := hx3.size
    refine X.opw X.wN rfl (X.assign rfl) ?_
    refine X.opsEnd ?_
    refine X.inBlock ?_
    refine X.region ?_
    refine X.opw X.wN rfl (X.move (v := .int .i64 _) rfl) ?_
    refine X.opw X.wN rfl (X.add rfl rfl (X.w_i64 (by omega))) ?_
    refine X.opw X.wN rfl (X.assign (v := .int .i64 _) rfl) ?_
    refine X.opsEnd ?_
    have hcv2 : ∀ (j : Nat) y (p : Nat × Nat), (cs ++ [(.iface 84 (.pointer (some ⟨bm1, 0, none⟩)))])[j]? = some y → (tb ++ [(wl.heap.size, w1.heap.size)])[j]? = some p → CV w.heap.size (fun k => p.1 ≤ k ∧ k < p.2) y (LL ls j) w3 := by
      intro j y p hy hp
      have hpm : p ∈ tb ++ [(wl.heap.size, w1.heap.size)] := List.mem_of_getElem? hp
      have hU : ∀ k, k < w3.heap.size → (w.heap.size ≤ k ∧ ∀ p, p ∈ tb ++ [(wl.heap.size, w1.heap.size)] → ¬ (p.1 ≤ k ∧ k < p.2)) → w.heap.size ≤ k ∧ ¬ (p.1 ≤ k ∧ k < p.2) := fun k _ h => ⟨h.1, h.2 p hpm⟩
      by_cases hj : j < cs.length
      · rw [List.getElem?_append_left hj] at hy
        rw [List.getElem?_append_left (by omega)] at hp
        exact ((hcv j y p hy hp).keep (hk1.trans hk2)).ext hx3 (fun k _ h => ⟨h.1, h.2 p hpm⟩)
      · rw [List.getElem?_append_right (by omega)] at hy hp
        have h0 : j - cs.length = 0 := by
          have := (List.getElem?_eq_some_iff.1 hy).1
          simp at this; omega
        rw [h0] at hy
        rw [show j - tb.length = 0 by omega] at hp
        simp at hy hp
        have hLL : LL ls j = li := by rw [show j = i by omega, LL, List.getD_eq_getElem?_getD, hli]; rfl
        rw [← hy, ← hp, hLL]
        exact (hC1.keep hk2).ext hx3 (fun k _ h => ⟨h.1, by rw [← hp] at hpm; exact h.2 _ hpm⟩)
    have hpw2 : (tb ++ [(wl.heap.size, w1.heap.size)]).Pairwise (fun p q => p.2 ≤ q.1) := by
      rw [List.pairwise_append]
      exact ⟨hpw, List.pairwise_singleton _ _, fun p hp q hq => by rw [List.mem_singleton.1 hq]; have := htb p hp; (try simp only []); omega⟩
    refine hback (i + 1, _, cs ++ [(.iface 84 (.pointer (some ⟨bm1, 0, none⟩)))], tb ++ [(wl.heap.size, w1.heap.size)]) _ _ ⟨rfl, rfl, rfl, trivial⟩ ⟨by dsimp only; omega, by dsimp only; rw [List.length_append, hcl]; rfl, by dsimp only; rw [List.length_append, htl]; rfl, hM3, hcv2, fun p hp => by have := htb2 p hp; omega, hpw2, (((hk.trans hk1).trans hk2).step hx3 (by intros; (try simp only [] at *); omega))⟩ (by dsimp only; omega)
  · refine X.opsEnd ?_
    refine X.condF rfl ?_
    refine X.exit rfl ?_
    refine X.seq ?_
    refine X.region ?_
    refine X.opw X.wN rfl (X.move rfl) ?_
    refine X.opw X.wN rfl (X.assign rfl) ?_
    refine X.opsEnd ?_
    refine X.ret1 Try.func18 Try.results18 rfl ?_
    obtain ⟨A', c', e, hc', hs'⟩ := hM0.slF KR1_flat 0 (fun _ _ => Nat.zero_le _)
    have hin : i = n := by omega
    rw [hcl, hin] at e hc' hs'
    refine ⟨cs, A', c', fun j k => ∃ p, tb[j]? = some p ∧ p.1 ≤ k ∧ k < p.2, e, hc', hs', fun j hj k ⟨p, h1, h2⟩ => by have := htb p (List.mem_of_getElem? h1); omega, ?_, ?_, hk⟩
    · rintro i j hi hj hne k ⟨p, h1, h2⟩ ⟨q, h3, h4⟩
      obtain ⟨g1, g2⟩ := List.getElem?_eq_some_iff.1 h1
      obtain ⟨g3, g4⟩ := List.getElem?_eq_some_iff.1 h3
      have hp := List.pairwise_iff_getElem.1 hpw
      rcases Nat.lt_or_ge i j with h5 | h5
      · have := hp i j g1 g3 h5; rw [g2, g4] at this; omega
      · have := hp j i g3 g1 (by omega); rw [g2, g4] at this; omega
    · intro j y hy
      have hjl := (List.getElem?_eq_some_iff.1 hy).1
      exact (hcv j y _ hy (List.getElem?_eq_getElem (by omega))).wide fun k hk => ⟨_, List.getElem?_eq_getElem (by omega), hk⟩
end Go.Proofs.Ytgfficbkajcdpaa

namespace Go.Proofs.Ytgfficbkajcdpaa
open Go Go.Proofs.Ytgfficbkajcdpaa.X
set_option linter.unusedVariables false
set_option linter.unusedSimpArgs false
theorem rows_things {lo hi : Nat} {w : World} : ∀ {vs : List Value} {ls : List (List TH)}, SlRows (Kd.pair (KN .i8) KI) lo hi w vs ls → SlRows KTh lo hi w vs ls
  | [], [], _ => trivial
  | _ :: _, _ :: _, h => by
    obtain ⟨⟨A, n, c, e, h1, h2⟩, h3⟩ := h
    exact ⟨⟨A, n, c, e, h1, sl_things h2⟩, rows_things h3⟩
  | [], _ :: _, h => h.elim
  | _ :: _, [], h => h.elim
theorem totL_le {qs : List (List TH)} (h : ∀ l ∈ qs, l.length ≤ 30) : ∀ n, totL (LL qs) n ≤ 30 * n
  | 0 => Nat.le_refl _
  | n + 1 => by
    have := totL_le h n
    have h2 : (LL qs n).length ≤ 30 := by
      rw [LL, List.getD_eq_getElem?_getD]
      cases hq : qs[n]? with
      | none => simp
      | some l => exact h l (List.mem_of_getElem? hq)
    rw [totL]; omega
theorem mg_lt {qs : List (List TH)} (h : ∀ l ∈ qs, l.length ≤ 30) {n : Nat} (hn : n ≤ 6) : (mgC n (LL qs)).length < 2000 := by
  have := mgC_len _ n (LL qs) rfl
  have := totL_le h n
  omega
-- f5 "pedigree/pedigreelaw09.MergeMerges" params [22] results [4] -> [(ResultVar.tmp 2)] nfree 0 ntmps 55 nam
set_option maxHeartbeats 4000000 in
set_option maxRecDepth 100000 in
theorem MergeMerges_c (w : World) (A1 : Option Addr) (n1 c1 : Nat) (l1 : List (List TH)) (hc1 : n1 ≤ c1) (s1 : Sl (Kd.slice (Kd.pair (KN .i8) KI)) 0 w.heap.size w A1 n1 l1) :
    Ret Try.prog 5 #[.slice A1 n1 c1] w fun r w' => r = .bool true ∧ Keep w w' := by
  obtain ⟨vs, hs, hrows0⟩ := s1.rows
  have hrows := rows_things hrows0
  refine X.enter Try.func5 rfl Try.ntmps5 rfl ?_
  refine X.seq ?_
  refine X.region ?_
  refine X.opw X.wN rfl (X.assign rfl) ?_
  refine X.opsEnd ?_
  refine X.seq ?_
  refine X.region ?_
  refine X.opw X.wN rfl (X.move (v := .slice _ _ _) rfl) ?_
  refine X.opE X.wN rfl (X.callE (cut_c _ hs hrows (Nat.le_refl _)) Try.call12 rfl rfl) ?_
  rintro _ w1 ⟨us, qs, A1, c1, rfl, hc1, hs1, hr1, _, hu6, hq30, hk1⟩
  have hk1' := hk1.size
  refine X.opw X.wN rfl (X.assign (v := .slice _ _ _) rfl) ?_
  refine X.opsEnd ?_
  refine X.seq ?_
  refine X.region ?_
  refine X.opw X.wN rfl (X.move (v := .slice _ _ _) rfl) ?_
  refine X.opE X.wN rfl (X.callE (cursors_c _ hs1 hr1 (by omega) (by omega) hq30) Try.call18 rfl rfl) ?_
  rintro _ w2 ⟨cs, A2, c2, Tj, rfl, hc2, hs2, hTj, hdis, hcv, hk2⟩
  have hk2' := hk2.size
  refine X.opE X.wN rfl (X.callE (Merge_c (B := w1.heap.size) (a := w1.heap.size) (L := LL qs) (Tj := Tj) _ hs2 (by omega) (Nat.le_refl _) (by omega) (fun j hj k hk => by have := hTj j hj k hk; omega) hdis (fun j y h => (hcv j y h)) cmp17) Try.call16 rfl rfl) ?_
  rintro _ w3 ⟨⟨p3, rfl⟩, hC3, hk3⟩
  have hk3' := hk3.size
  refine X.opE X.wN rfl (X.callE (rest_b _ (CV.cur hC3) (by omega) (fun k hk => by (try simp only [] at *); omega) (mg_lt hq30 hu6)) Try.call15 rfl rfl) ?_
  rintro _ w4 ⟨v4, rfl, hM4, hx4⟩
  have hx4' := hx4.size
  refine X.opw X.wN rfl (X.move rfl) ?_
  refine X.opw X.wN rfl (X.extr rfl rfl) ?_
  refine X.opw X.wN rfl (X.extr rfl rfl) ?_
  refine X.opw X.wN rfl (X.assign rfl) ?_
  refine X.opw X.wN rfl (X.assign (v := .bool _) rfl) ?_
  refine X.opsEnd ?_
  refine X.seq ?_
  refine X.seq ?_
  refine X.region ?_
  refine X.opw X.wN rfl (X.move (v := .bool true) rfl) ?_
  refine X.opw X.wN rfl (X.not_ rfl) ?_
  refine X.opw X.wN rfl (X.move (v := .bool false) rfl) ?_
  refine X.opw (X.wG rfl rfl rfl) rfl (X.move rfl) ?_
  refine X.opw (X.wG rfl rfl rfl) rfl (X.move (v := .slice _ _ _) rfl) ?_
  refine X.opE (X.wG rfl rfl rfl) rfl (X.callE ((RMerge_c _ ((hs1.keep (hk2.trans hk3)).ext hx4 (by intros; (try simp only []); omega)) (SlRows.ext hx4 (by intro k h1 h2; (try simp only []); omega) (SlRows.keep hk3 (SlRows.keep hk2 hr1))) (by omega) (by omega) (by omega) (by have := totL_le hq30 us.length; omega)).mono fun _ _ h => fresh_t h) Try.call25 rfl rfl) ?_
  rintro _ w5 ⟨A5, c5, rfl, hc5, hs5, hk5⟩
  have hk5' := hk5.size
  have q7 := (hM4.keep hk5).slF KTh_flat 0 (fun _ _ => Nat.zero_le _)
  obtain ⟨A7, c7, rfl, hc7, hs7⟩ := q7
  refine X.opE (X.wG rfl rfl rfl) rfl (X.callE (Same_c _ hs7 hs5) Try.call22 rfl rfl) ?_
  rintro _ w6 ⟨rfl, hk6⟩
  have hk6' := hk6.size
  refine X.opw (X.wG rfl rfl rfl) rfl (X.not_ rfl) ?_
  refine X.opw X.wN rfl (X.pickF (v := .bool _) rfl rfl) ?_
  refine X.opsEnd ?_
  refine X.condB rfl (fun hc => ?_) (fun hc => ?_)
  · simp at hc
  · refine X.skip ?_
    refine X.seq ?_
    refine X.seq ?_
    refine X.region ?_
    refine X.opw X.wN rfl (X.assign rfl) ?_
    refine X.opsEnd ?_
    refine X.block ?_
    -- LOOP live: 0=l, 5=i*
    refine X.loopL (σ := Nat) (fun s => [(0, .slice A1 us.length c1), (5, .int .i64 (s : Int))]) (fun s w' => s ≤ us.length ∧ Sl KR1 0 w1.heap.size w' A1 us.length us ∧ SlRows KTh 0 w.heap.size w' us qs ∧ w1.heap.size ≤ w'.heap.size ∧ Keep w w') (fun s => us.length - s) 0 ⟨rfl, rfl, trivial⟩ ⟨Nat.zero_le _, (((hs1.keep (hk2.trans hk3)).ext hx4 (by intros; (try simp only []); omega)).keep (hk5.trans hk6)), (SlRows.keep hk6 (SlRows.keep hk5 (SlRows.ext hx4 (by intro k h1 h2; (try simp only []); omega) (SlRows.keep hk3 (SlRows.keep hk2 hr1))))), by omega, (((((hk1.trans hk2).trans hk3).step hx4 (by intros; (try simp only [] at *); omega)).trans hk5).trans hk6)⟩ ?_
    rintro i b0 wl ⟨hi, hsl, hrl, hwl, hk⟩ hback
    have hk' := hk.size
    refine X.seq ?_
    refine X.seq ?_
    refine X.region ?_
    refine X.opw X.wN rfl (X.move (v := .int .i64 _) rfl) ?_
    refine X.opw X.wN rfl (X.move (v := .slice _ _ _) rfl) ?_
    refine X.opw X.wN rfl (X.lenSl Try.underlying22 rfl) ?_
    refine X.opP X.wN rfl rfl (X.lss rfl rfl) (fun h29 => ?_) (fun h29 => ?_)
    · obtain ⟨vi, hvi⟩ := getV (vs := us) i rfl (by omega)
      obtain ⟨li, Ai, ni, ci, hli, rfl, hnci, hsi⟩ := SlRows.get hrl hvi
      have hlen30 := hq30 li (List.mem_of_getElem? hli)
      have hlil := hsi.len
      refine X.opsEnd ?_
      refine X.condT rfl ?_
      refine X.skip ?_
      refine X.seq ?_
      refine X.block ?_
      refine X.seq ?_
      refine X.region ?_
      refine X.opw X.wN rfl (X.move (v := .slice _ _ _) rfl) ?_
      refine X.opw X.wN rfl (X.move (v := .int .i64 _) rfl) ?_
      refine X.opw X.wN rfl (X.idxS hsl Try.underlying22 Try.sizeOf24 rfl rfl ⟨by omega, by omega⟩) ?_
      refine X.opw X.wN rfl (X.loadS Try.isAgg24 hsl hvi rfl (fun _ h => by rw [h.1]; rfl)) ?_
      refine X.opE X.wN rfl (X.callE (Of_c w.heap.size _ hsi (by omega) (by omega)) Try.call20 rfl rfl) ?_
      rintro _ w8 ⟨bm8, rfl, hC8, hk8⟩
      have hk8' := hk8.size
      refine X.opE X.wN rfl (X.callE (Once_c _ hC8 (by omega) (by omega) (by omega) cmpOk17) Try.call26 rfl rfl) ?_
      rintro _ w9 ⟨⟨p9, rfl⟩, hC9, hk9⟩
      have hk9' := hk9.size
      refine X.opE X.wN rfl (X.callE (rest_b _ (CV.cur hC9) (by omega) (fun k hk => by (try simp only [] at *); omega) (by have := once_len li none; omega)) Try.call15 rfl rfl) ?_
      rintro _ w10 ⟨v10, rfl, hM10, hx10⟩
      have hx10' := hx10.size
      refine X.opw X.wN rfl (X.move rfl) ?_
      refine X.opw X.wN rfl (X.extr rfl rfl) ?_
      refine X.opw X.wN rfl (X.extr rfl rfl) ?_
      refine X.opw X.wN rfl (X.assign rfl) ?_
      refine X.opw X.wN rfl (X.assign (v := .bool _) rfl) ?_
      refine X.opsEnd ?_
      refine X.seq ?_
      refine X.region ?_
      refine X.opw X.wN rfl (X.move (v := .bool true) rfl) ?_
      refine X.opw X.wN rfl (X.not_ rfl) ?_
      refine X.opw X.wN rfl (X.move (v := .bool false) rfl) ?_
      refine X.opw (X.wG rfl rfl rfl) rfl (X.move rfl) ?_
      refine X.opw (X.wG rfl rfl rfl) rfl (X.move (v := .slice _ _ _) rfl) ?_
      refine X.opw (X.wG rfl rfl rfl) rfl (X.move (v := .int .i64 _) rfl) ?_
      refine X.opw (X.wG rfl rfl rfl) rfl (X.idxS ((hsl.keep (hk8.trans hk9)).ext hx10 (by intros; (try simp only []); omega)) Try.underlying22 Try.sizeOf24 rfl rfl ⟨by omega, by omega⟩) ?_
      refine X.opw (X.wG rfl rfl rfl) rfl (X.loadS Try.isAgg24 ((hsl.keep (hk8.trans hk9)).ext hx10 (by intros; (try simp only []); omega)) hvi rfl (fun _ h => by rw [h.1]; rfl)) ?_
      refine X.opE (X.wG rfl rfl rfl) rfl (X.callE ((ROnce_c _ ((hsi.keep (hk8.trans hk9)).ext hx10 (by intros; (try simp only []); omega)) (by omega)).mono fun _ _ h => fresh_t h) Try.call27 rfl rfl) ?_
      rintro _ w11 ⟨A11, c11, rfl, hc11, hs11, hk11⟩
      have hk11' := hk11.size
      have q13 := (hM10.keep hk11).slF KTh_flat 0 (fun _ _ => Nat.zero_le _)
      obtain ⟨A13, c13, rfl, hc13, hs13⟩ := q13
      refine X.opE (X.wG rfl rfl rfl) rfl (X.callE (Same_c _ hs13 hs11) Try.call22 rfl rfl) ?_
      rintro _ w12 ⟨rfl, hk12⟩
      have hk12' := hk12.size
      refine X.opw (X.wG rfl rfl rfl) rfl (X.not_ rfl) ?_
      refine X.opw X.wN rfl (X.pickF (v := .bool _) rfl rfl) ?_
      refine X.opsEnd ?_
      refine X.condB rfl (fun hc => ?_) (fun hc => ?_)
      · simp at hc
      · refine X.skip ?_
        refine X.inBlock ?_
        refine X.region ?_
        refine X.opw X.wN rfl (X.move (v := .int .i64 _) rfl) ?_
        refine X.opw X.wN rfl (X.add rfl rfl (X.w_i64 (by omega))) ?_
        refine X.opw X.wN rfl (X.assign (v := .int .i64 _) rfl) ?_
        refine X.opsEnd ?_
        refine hback (i + 1) _ _ ⟨rfl, rfl, trivial⟩ ⟨by omega, (((hsl.keep (hk8.trans hk9)).ext hx10 (by intros; (try simp only []); omega)).keep (hk11.trans hk12)), (SlRows.keep hk12 (SlRows.keep hk11 (SlRows.ext hx10 (by intro k h1 h2; (try simp only []); omega) (SlRows.keep hk9 (SlRows.keep hk8 hrl))))), by omega, (((((hk.trans hk8).trans hk9).step hx10 (by intros; (try simp only [] at *); omega)).trans hk11).trans hk12)⟩ (by omega)
    · refine X.opsEnd ?_
      refine X.condF rfl ?_
      refine X.exit rfl ?_
      refine X.seq ?_
      refine X.region ?_
      refine X.opE X.wN rfl (X.callE (alive_c _) Try.call14 rfl rfl) ?_
      rintro _ w14 ⟨rfl, hk14⟩
      have hk14' := hk14.size
      refine X.opw X.wN rfl (X.assign (v := .bool _) rfl) ?_
      refine X.opsEnd ?_
      refine X.ret1 (v := (.bool _)) Try.func5 Try.results5 rfl ?_
      exact ⟨rfl, (hk.trans hk14)⟩
end Go.Proofs.Ytgfficbkajcdpaa

namespace Go.Proofs.Ytgfficbkajcdpaa
open Go Go.Proofs.Ytgfficbkajcdpaa.X
set_option linter.unusedVariables false
set_option linter.unusedSimpArgs false

def Rise (l : List TH) : Prop := l.Pairwise fun x y => x.1 ≤ y.1
def Strict (l : List TH) : Prop := l.Pairwise fun x y => x.1 < y.1
theorem pk_least {L : Nat → List TH} : ∀ {n i : Nat} {x : TH}, pk L n = some (i, x) → ∀ j, j < n → ∀ y l, L j = y :: l → x.1 ≤ y.1
  | 0, i, x, h, j, hj, _, _, _ => by omega
  | n + 1, i, x, h, j, hj, y, l, hy => by
    rw [pk] at h
    split at h
    · rename_i hl
      have hjn : j ≠ n := fun e => by rw [e, hl] at hy; cases hy
      exact pk_least h j (by omega) y l hy
    · rename_i y' l' hl hp
      injection h with h; injection h with h1 h2
      have : j = n ∨ j < n := by omega
      rcases this with rfl | hlt
      · rw [hl] at hy; cases hy; rw [h2]; exact Int.le_refl _
      · have := pk_none hp j hlt; rw [this] at hy; cases hy
    · rename_i y' l' i' x' hl hp
      have hlow : j < n → x'.1 ≤ y.1 := fun hlt => pk_least hp j hlt y l hy
      have hjn : j = n ∨ j < n := by omega
      split at h
      · rename_i hlt
        injection h with h; injection h with h1 h2
        subst h2
        rcases hjn with rfl | hj2
        · rw [hl] at hy; cases hy; exact Int.le_refl _
        · have := hlow hj2; omega
      · rename_i hge
        injection h with h; injection h with h1 h2
        subst h2
        rcases hjn with rfl | hj2
        · rw [hl] at hy; cases hy; omega
        · exact hlow hj2
theorem mg_mem : ∀ (t n : Nat) (L : Nat → List TH), totL L n = t → ∀ y, y ∈ mgC n L → ∃ j, j < n ∧ y ∈ L j
  | 0, n, L, h, y, hy => by rw [mgC, h] at hy; cases hy
  | t + 1, n, L, h, y, hy => by
    cases hp : pk L n with
    | none => rw [mgC_none hp] at hy; cases hy
    | some q =>
      obtain ⟨i, x⟩ := q
      obtain ⟨h1, l, h2⟩ := pk_some hp
      have ht := totL_upd h2 n
      rw [if_pos h1] at ht
      rw [mgC_some hp] at hy
      rcases List.mem_cons.1 hy with rfl | hy
      · exact ⟨i, h1, by rw [h2]; exact List.mem_cons_self ..⟩
      · obtain ⟨j, hj, hm⟩ := mg_mem t n (updL L i) (by omega) y hy
        refine ⟨j, hj, ?_⟩
        by_cases e : j = i
        · rw [updL, if_pos e] at hm; exact List.mem_of_mem_tail hm
        · rw [updL, if_neg e] at hm; exact hm
theorem mg_rise : ∀ (t n : Nat) (L : Nat → List TH), totL L n = t → (∀ j, j < n → Rise (L j)) → Rise (mgC n L)
  | 0, n, L, h, _ => by rw [mgC, h]; exact List.Pairwise.nil
  | t + 1, n, L, h, hs => by
    cases hp : pk L n with
    | none => rw [mgC_none hp]; exact List.Pairwise.nil
    | some q =>
      obtain ⟨i, x⟩ := q
      obtain ⟨h1, l, h2⟩ := pk_some hp
      have ht := totL_upd h2 n
      rw [if_pos h1] at ht
      have hs2 : ∀ j, j < n → Rise (updL L i j) := fun j hj => by
        by_cases e : j = i
        · rw [updL, if_pos e, e, h2]; have := hs i h1; rw [h2] at this; exact (List.pairwise_cons.1 this).2
        · rw [updL, if_neg e]; exact hs j hj
      rw [mgC_some hp]
      refine List.pairwise_cons.2 ⟨fun y hy => ?_, mg_rise t n _ (by omega) hs2⟩
      obtain ⟨j, hj, hm⟩ := mg_mem t n _ (by omega) y hy
      have hm' : y ∈ L j := by
        by_cases e : j = i
        · rw [updL, if_pos e] at hm; exact List.mem_of_mem_tail hm
        · rw [updL, if_neg e] at hm; exact hm
      cases hL : L j with
      | nil => rw [hL] at hm'; cases hm'
      | cons z zs =>
        have hz := pk_least hp j hj z zs hL
        rw [hL] at hm'
        rcases List.mem_cons.1 hm' with rfl | hm'
        · exact hz
        · have := hs j hj; rw [hL] at this
          have := (List.pairwise_cons.1 this).1 y hm'
          omega
theorem once_mem : ∀ (l : List TH) (p : Option TH) (y : TH), y ∈ onceL p l → y ∈ l
  | [], p, y, h => by cases p <;> cases h
  | x :: l, none, y, h => by
    rcases List.mem_cons.1 h with rfl | h
    · exact List.mem_cons_self ..
    · exact List.mem_cons_of_mem _ (once_mem l _ y h)
  | x :: l, some p, y, h => by
    rw [onceL] at h
    split at h
    · exact List.mem_cons_of_mem _ (once_mem l _ y h)
    · rcases List.mem_cons.1 h with rfl | h
      · exact List.mem_cons_self ..
      · exact List.mem_cons_of_mem _ (once_mem l _ y h)
theorem once_strict : ∀ (l : List TH) (p : Option TH), Rise l → (∀ q, p = some q → ∀ y ∈ l, q.1 ≤ y.1) → Strict (onceL p l) ∧ ∀ q, p = some q → ∀ y ∈ onceL p l, q.1 < y.1
  | [], p, _, _ => by cases p <;> exact ⟨List.Pairwise.nil, fun q _ y hy => by cases hy⟩
  | x :: l, none, hr, _ => by
    obtain ⟨h1, h2⟩ := List.pairwise_cons.1 hr
    obtain ⟨g1, g2⟩ := once_strict l (some x) h2 (fun q hq y hy => by cases hq; exact h1 y hy)
    exact ⟨List.pairwise_cons.2 ⟨fun y hy => g2 x rfl y hy, g1⟩, fun q hq => by cases hq⟩
  | x :: l, some p, hr, hp => by
    obtain ⟨h1, h2⟩ := List.pairwise_cons.1 hr
    have hpx := hp p rfl x (List.mem_cons_self ..)
    rw [onceL]
    split
    · rename_i e
      exact once_strict l (some p) h2 (fun q hq y hy => hp q hq y (List.mem_cons_of_mem _ hy))
    · rename_i e
      obtain ⟨g1, g2⟩ := once_strict l (some x) h2 (fun q hq y hy => by cases hq; exact h1 y hy)
      refine ⟨List.pairwise_cons.2 ⟨fun y hy => g2 x rfl y hy, g1⟩, fun q hq y hy => ?_⟩
      cases hq
      rcases List.mem_cons.1 hy with rfl | hy
      · omega
      · have := g2 x rfl y hy; omega
def anyT (x : TH) (ys : List TH) : Bool := ys.any fun y => decide (x.1 = y.1)
theorem anyT_skip {x z : TH} (h : z.1 < x.1 ∨ z.1 = x.1) : ∀ (ys : List TH), Strict ys → anyT x (skipT z ys) = anyT x ys
  | [], _ => rfl
  | y :: ys, hs => by
    obtain ⟨h1, h2⟩ := List.pairwise_cons.1 hs
    by_cases hy : y.1 < z.1
    · rw [(skip_go hy).1, anyT_skip h ys h2]
      simp [anyT, show ¬ x.1 = y.1 by omega]
    · rw [(skip_stop hy).1]
theorem hasT_any {x : TH} : ∀ (ys : List TH), Strict ys → hasT x ys = anyT x ys
  | [], _ => rfl
  | y :: ys, hs => by
    obtain ⟨h1, h2⟩ := List.pairwise_cons.1 hs
    by_cases hy : y.1 < x.1
    · rw [(skip_go hy).2, hasT_any ys h2]
      simp [anyT, show ¬ x.1 = y.1 by omega]
    · rw [(skip_stop hy).2]
      by_cases e : y.1 = x.1
      · simp [anyT, e]
      · have : (ys.any fun y => decide (x.1 = y.1)) = false := by
          rw [List.any_eq_false]
          intro z hz
          have := h1 z hz
          simp; omega
        simp [anyT, e, show ¬ x.1 = y.1 from fun h => e h.symm, this]
theorem skip_strict (z : TH) (ys : List TH) (h : Strict ys) : Strict (skipT z ys) := h.sublist (List.dropWhile_sublist _)
theorem held_filter (t : Bool) : ∀ (xs ys : List TH), Strict xs → Strict ys → heldL t xs ys = xs.filter fun x => anyT x ys == t
  | [], ys, _, _ => rfl
  | x :: xs, ys, hx, hy => by
    obtain ⟨h1, h2⟩ := List.pairwise_cons.1 hx
    have ih := held_filter t xs (skipT x ys) h2 (skip_strict x ys hy)
    have e : (xs.filter fun z => anyT z (skipT x ys) == t) = xs.filter fun z => anyT z ys == t := by
      apply List.filter_congr
      intro z hz
      rw [anyT_skip (.inl (h1 z hz)) ys hy]
    rw [heldL, hasT_any ys hy, ih, e, List.filter_cons]
    cases hq : anyT x ys <;> cases t <;> simp
theorem filter_at {l : List TH} {f : TH → Bool} {i : Nat} {x : TH} (hx : l[i]? = some x) (hf : f x = true) : (l.filter f)[((l.take i).filter f).length]? = some x ∧ ((l.take (i + 1)).filter f).length = ((l.take i).filter f).length + 1 := by
  have e : l = l.take i ++ x :: l.drop (i + 1) := by rw [← drop_at hx, List.take_append_drop]
  refine ⟨?_, by rw [take_at hx, List.filter_append]; simp [hf]⟩
  have : l.filter f = (l.take i).filter f ++ x :: (l.drop (i + 1)).filter f := by
    conv => lhs; rw [e]
    rw [List.filter_append, List.filter_cons, if_pos hf]
  rw [this, List.getElem?_append_right (Nat.le_refl _)]
  simp
theorem filter_no {l : List TH} {f : TH → Bool} {i : Nat} {x : TH} (hx : l[i]? = some x) (hf : f x = false) : ((l.take (i + 1)).filter f).length = ((l.take i).filter f).length := by
  rw [take_at hx, List.filter_append]; simp [hf]
/-- One by one, then one of each kind, rising. -/
def setL (l : List TH) : List TH := onceL none (mgC 1 (LL [mgC (l.take 30).length (LL ((l.take 30).map fun x => [x]))]))
theorem LL_single (l : List TH) (j : Nat) : Rise (LL (l.map fun x => [x]) j) := by
  rw [LL, List.getD_eq_getElem?_getD, List.getElem?_map]
  cases l[j]? with
  | none => exact List.Pairwise.nil
  | some x => exact List.pairwise_singleton _ _
theorem set_strict (l : List TH) : Strict (setL l) := by
  refine (once_strict _ none (mg_rise _ 1 _ rfl fun j hj => ?_) (fun q hq => by cases hq)).1
  obtain rfl : j = 0 := by omega
  exact mg_rise _ _ _ rfl fun j _ => LL_single _ j
end Go.Proofs.Ytgfficbkajcdpaa

namespace Go.Proofs.Ytgfficbkajcdpaa
open Go Go.Proofs.Ytgfficbkajcdpaa.X
set_option linter.unusedVariables false
set_option linter.unusedSimpArgs false
abbrev rowV (b : Nat) : Value := .slice (some ⟨b, 0, none⟩) 1 1
theorem blk_sl {b : Nat} {x : TH} {w : World} (h : Blk w b [.int .i8 x.1, .int .i64 x.2] 29) : Sl KTh b (b + 1) w (some ⟨b, 0, none⟩) 1 [x] := by
  have hM : Mine KTh 29 (fun k => k = b) 0 0 w (rowV b) [x] := Mine.litV (vs := [evT x]) KTh_flat (w0 := w) h (repsT x) rfl (by omega) rfl
  obtain ⟨A, c, e1, _, hs⟩ := (hM.flat KTh_flat (lo' := b) (hi' := b + 1)).sl (fun k _ hk => by have hk : k = b := hk; omega)
  injection e1 with e1 e2 e3
  rw [e1]; exact hs
theorem rows_blks {lo hi : Nat} {w : World} : ∀ (bs : List Nat) (l : List TH), bs.length = l.length → (∀ (j b : Nat), bs[j]? = some b → ∃ x, l[j]? = some x ∧ Blk w b [.int .i8 x.1, .int .i64 x.2] 29) → (∀ b, b ∈ bs → lo ≤ b ∧ b < hi) → SlRows KTh lo hi w (bs.map rowV) (l.map fun x => [x])
  | [], [], _, _, _ => trivial
  | b :: bs, x :: l, hl, hb, hr => by
    obtain ⟨y, h1, h2⟩ := hb 0 b rfl
    have hx : x = y := by simpa using h1
    subst hx
    have hbb := hr b (List.mem_cons_self ..)
    exact ⟨⟨_, 1, 1, rfl, Nat.le_refl _, (blk_sl h2).wide (by omega) (by omega)⟩, rows_blks bs l (by simpa using hl) (fun j b h => by
      obtain ⟨x, h1, h2⟩ := hb (j + 1) b (by simpa using h)
      exact ⟨x, by simpa using h1, h2⟩) (fun b h => hr b (List.mem_cons_of_mem _ h))⟩
  | [], _ :: _, h, _, _ => by simp at h
  | _ :: _, [], h, _, _ => by simp at h
theorem tot_single (l : List TH) : ∀ n, totL (LL (l.map fun x => [x])) n ≤ n
  | 0 => Nat.le_refl _
  | n + 1 => by
    have := tot_single l n
    have h2 : (LL (l.map fun x => [x]) n).length ≤ 1 := by
      rw [LL, List.getD_eq_getElem?_getD, List.getElem?_map]
      cases l[n]? <;> simp
    rw [totL]; omega
-- f31 "pedigree/pedigreelaw09.single" params [24] results [24] -> [(ResultVar.tmp 2)] nfree 0 ntmps 23 names 
set_option maxHeartbeats 4000000 in
set_option maxRecDepth 100000 in
theorem single_c {lo hi : Nat} {A : Option Addr} {n c : Nat} {l : List TH} (w : World) (hs : Sl KTh lo hi w A n l) (hnc : n ≤ c) (hhi : hi ≤ w.heap.size) : Ret Try.prog 31 #[.slice A n c] w fun r w' => ∃ A c, r = .slice A (mgC (l.take 30).length (LL ((l.take 30).map fun x => [x]))).length c ∧ (mgC (l.take 30).length (LL ((l.take 30).map fun x => [x]))).length ≤ c ∧ Sl KTh w.heap.size w'.heap.size w' A (mgC (l.take 30).length (LL ((l.take 30).map fun x => [x]))).length (mgC (l.take 30).length (LL ((l.take 30).map fun x => [x]))) ∧ (mgC (l.take 30).length (LL ((l.take 30).map fun x => [x]))).length ≤ 30 ∧ Keep w w' := by
  have hl := hs.len
  refine X.enter Try.func31 rfl Try.ntmps31 rfl ?_
  refine X.seq ?_
  refine X.region ?_
  refine X.opw X.wN rfl (X.assign rfl) ?_
  refine X.opsEnd ?_
  refine X.seq ?_
  refine X.region ?_
  refine X.opw X.wN rfl (X.move (v := .slice _ _ _) rfl) ?_
  refine X.opE X.wN rfl (X.callE (short_c _ hs hnc) Try.call19 rfl rfl) ?_
  rintro _ w1 ⟨mq, rfl, hmc, hm3, hsq, hk1⟩
  have hk1' := hk1.size
  refine X.opw X.wN rfl (X.assign (v := .slice _ _ _) rfl) ?_
  refine X.opsEnd ?_
  refine X.seq ?_
  refine X.region ?_
  refine X.opw X.wN rfl (X.assign rfl) ?_
  refine X.opsEnd ?_
  refine X.seq ?_
  refine X.seq ?_
  refine X.region ?_
  refine X.opw X.wN rfl (X.assign rfl) ?_
  refine X.opsEnd ?_
  refine X.block ?_
  -- LOOP live: 0=l, 3=rows*, 4=i*
  have hl30 := hsq.len
  refine X.loopL (σ := Nat × Value × List Nat) (fun s => [(0, .slice A mq c), (3, s.2.1), (4, .int .i64 (s.1 : Int))]) (fun s w' => Sl KTh lo hi w' A mq (l.take 30) ∧ s.2.2.length = s.1 ∧ s.1 ≤ mq ∧ Mine KR1 24 (fun k => w.heap.size ≤ k ∧ k ∉ s.2.2) 0 0 w' s.2.1 (s.2.2.map rowV) ∧ (∀ (i b : Nat), s.2.2[i]? = some b → ∃ x, (l.take 30)[i]? = some x ∧ Blk w' b [.int .i8 x.1, .int .i64 x.2] 29) ∧ (∀ b, b ∈ s.2.2 → w.heap.size ≤ b ∧ b < w'.heap.size) ∧ Keep w w') (fun s => mq - s.1) (0, _, []) ⟨rfl, rfl, rfl, trivial⟩ ⟨hsq, rfl, Nat.zero_le _, Mine.nil _ _ _ _ _ _, fun i b h => by simp at h, fun b h => by simp at h, hk1⟩ ?_
  rintro ⟨j, v, bs⟩ b0 wl ⟨hsl, hj, hjn, hM, hbk, hbb, hk⟩ hback
  dsimp only
  simp only at hj hjn hM hbk hbb
  have hk' := hk.size
  refine X.seq ?_
  refine X.seq ?_
  refine X.region ?_
  refine X.opw X.wN rfl (X.move (v := .int .i64 _) rfl) ?_
  refine X.opw X.wN rfl (X.move (v := .slice _ _ _) rfl) ?_
  refine X.opw X.wN rfl (X.lenSl Try.underlying24 rfl) ?_
  refine X.opP X.wN rfl rfl (X.lss rfl rfl) (fun h10 => ?_) (fun h10 => ?_)
  · obtain ⟨x, hxj⟩ := get2 j hl30 (by omega)
    refine X.opsEnd ?_
    refine X.condT rfl ?_
    refine X.skip ?_
    refine X.seq ?_
    refine X.block ?_
    refine X.region ?_
    refine X.opw X.wN rfl (X.move rfl) ?_
    refine X.opw X.wN rfl (X.move (v := .slice _ _ _) rfl) ?_
    refine X.opw X.wN rfl (X.move (v := .int .i64 _) rfl) ?_
    refine X.opw X.wN rfl (X.idxS hsl Try.underlying24 Try.sizeOf29 rfl rfl ⟨by omega, by omega⟩) ?_
    refine X.opw X.wN rfl (X.loadSN Try.isAgg29 Try.sizeOf29 hsl hxj rfl (fun _ h => h.1) rfl) ?_
    refine X.opE X.wN rfl (X.litKF KTh_flat (K := KTh) (xs := [Operand.tmp 17]) (vs := [evT x]) (ys := [x]) Try.underlying24 Try.sizeOf29 Try.zeroValue29 rfl rfl rfl rfl rfl (repsT x)) ?_
    rintro _ w2 ⟨rfl, hs2, hB2, hk2, hz2⟩
    refine X.opE X.wN rfl (X.litKF KR1_flat (K := KR1) (xs := [Operand.tmp 18]) (vs := [rowV (wl.heap.size)]) (ys := [rowV (wl.heap.size)]) Try.underlying22 Try.sizeOf24 Try.zeroValue24 rfl rfl rfl rfl rfl (reps_1 rfl rfl)) ?_
    rintro _ w3 ⟨rfl, hs3, hB3, hk3, hz3⟩
    have hbb1 : ∀ x, x ∈ bs ++ [wl.heap.size] → w.heap.size ≤ x ∧ x < w3.heap.size := fun x h => (List.mem_append.1 h).elim (fun h => by have := hbb x h; omega) (fun h => by have := List.mem_singleton.1 h; omega)
    refine X.opE X.wN rfl (X.appE (K := KR1) (S := fun k => w.heap.size ≤ k ∧ k ∉ bs ++ [wl.heap.size]) KR1_flat Try.underlying22 ERw rfl rfl ((hM.mono (T := fun k => w.heap.size ≤ k ∧ k ∉ bs ++ [wl.heap.size]) (fun k hk hs => ⟨hs.1, fun h => (List.mem_append.1 h).elim hs.2 (fun h => by have := List.mem_singleton.1 h; omega)⟩)).keep (hk2.trans hk3)) hs3 (by rw [List.length_map]; (try simp only [List.length_singleton]); omega) (fun k hk => ⟨by omega, fun h => by have := hbb1 k h; omega⟩)) ?_
    rintro v4 w4 ⟨hM4, hx4⟩
    have hx4' := hx4.size
    refine X.opw X.wN rfl (X.assign rfl) ?_
    refine X.opsEnd ?_
    refine X.inBlock ?_
    refine X.region ?_
    refine X.opw X.wN rfl (X.move (v := .int .i64 _) rfl) ?_
    refine X.opw X.wN rfl (X.add rfl rfl (X.w_i64 (by omega))) ?_
    refine X.opw X.wN rfl (X.assign (v := .int .i64 _) rfl) ?_
    refine X.opsEnd ?_
    have hblk : ∀ (i x : Nat), (bs ++ [wl.heap.size])[i]? = some x → ∃ y, (l.take 30)[i]? = some y ∧ Blk w4 x [.int .i8 y.1, .int .i64 y.2] 29 := by
      intro i x hix
      by_cases hi : i < bs.length
      · rw [List.getElem?_append_left hi] at hix
        obtain ⟨y, h1, h2⟩ := hbk i x hix
        exact ⟨y, h1, (h2.keep (hk2.trans hk3)).ext hx4 (fun h => h.2 (List.mem_append.2 (.inl (List.mem_of_getElem? hix))))⟩
      · rw [List.getElem?_append_right (by omega)] at hix
        have h0 : i - bs.length = 0 := by
          have := (List.getElem?_eq_some_iff.1 hix).1
          simp at this; omega
        rw [h0] at hix
        simp at hix
        rw [← hix, show i = j by omega]
        exact ⟨_, hxj, ((hB2.keep hk3)).ext hx4 (fun h => h.2 (List.mem_append.2 (.inr (List.mem_singleton.2 rfl))))⟩
    have hbb2 : ∀ x, x ∈ bs ++ [wl.heap.size] → w.heap.size ≤ x ∧ x < w4.heap.size := fun x hx => by have := hbb1 x hx; omega
    refine hback (j + 1, _, bs ++ [wl.heap.size]) _ _ ⟨rfl, rfl, rfl, trivial⟩ ⟨((hsl.keep (hk2.trans hk3)).ext hx4 (by intros; (try simp only []); omega)), by dsimp only; rw [List.length_append, hj]; rfl, by dsimp only; omega, by dsimp only; rw [List.map_append]; exact hM4, hblk, hbb2, (((hk.trans hk2).trans hk3).step hx4 (by intros; (try simp only [] at *); omega))⟩ (by dsimp only; omega)
  · have hml : (bs.map rowV).length = mq := by rw [List.length_map]; omega
    refine X.opsEnd ?_
    refine X.condF rfl ?_
    refine X.exit rfl ?_
    refine X.seq ?_
    refine X.region ?_
    refine X.opw X.wN rfl (X.move rfl) ?_
    have q6 := hM.slF KR1_flat 0 (fun _ _ => Nat.zero_le _)
    obtain ⟨A6, c6, rfl, hc6, hs6⟩ := q6
    refine X.opE X.wN rfl (X.callE ((RMerge_c _ hs6 (rows_blks bs (l.take 30) (by omega) hbk hbb) (by omega) (by omega) (by omega) (by have := tot_single (l.take 30) (bs.map rowV).length; omega)).mono fun _ _ h => fresh_t h) Try.call25 rfl rfl) ?_
    rintro _ w5 ⟨A5, c5, rfl, hc5, hs5, hk5⟩
    have hk5' := hk5.size
    refine X.opw X.wN rfl (X.assign (v := .slice _ _ _) rfl) ?_
    refine X.opsEnd ?_
    refine X.ret1 Try.func31 Try.results31 rfl ?_
    rw [hl30, ← hml]
    exact ⟨_, _, rfl, by omega, hs5.wide (by omega) (by omega), by have := mgC_len _ (bs.map rowV).length (LL ((l.take 30).map fun x => [x])) rfl; have := tot_single (l.take 30) (bs.map rowV).length; omega, (hk.trans hk5)⟩
end Go.Proofs.Ytgfficbkajcdpaa

namespace Go.Proofs.Ytgfficbkajcdpaa
open Go Go.Proofs.Ytgfficbkajcdpaa.X
set_option linter.unusedVariables false
set_option linter.unusedSimpArgs false
theorem single_q {lo hi : Nat} {A : Option Addr} {n c : Nat} {l : List TH} (w : World) (hs : Sl KTh lo hi w A n l) (hnc : n ≤ c) (hhi : hi ≤ w.heap.size) : Ret Try.prog 31 #[.slice A n c] w fun r w' => ∃ q A c, q = mgC (l.take 30).length (LL ((l.take 30).map fun x => [x])) ∧ q.length ≤ 30 ∧ r = .slice A q.length c ∧ q.length ≤ c ∧ Sl KTh w.heap.size w'.heap.size w' A q.length q ∧ Keep w w' :=
  (single_c w hs hnc hhi).mono fun r w' ⟨A, c, h1, h2, h3, h4, h5⟩ => ⟨_, A, c, rfl, h4, h1, h2, h3, h5⟩
theorem rmerge_q {lo hi lo2 hi2 : Nat} {A B : Option Addr} {c n2 c2 : Nat} {x : List TH} (w : World) (hs : Sl KR1 lo hi w A 1 [.slice B n2 c2]) (hc : n2 ≤ c2) (hx : Sl KTh lo2 hi2 w B n2 x) (hx30 : x.length ≤ 30) (hhi : hi ≤ w.heap.size) (hhi2 : hi2 ≤ w.heap.size) : Ret Try.prog 25 #[.slice A 1 c] w fun r w' => ∃ q A c, q = mgC 1 (LL [x]) ∧ q.length ≤ 30 ∧ r = .slice A q.length c ∧ q.length ≤ c ∧ Sl KTh w.heap.size w'.heap.size w' A q.length q ∧ Keep w w' := by
  have ht : totL (LL [x]) 1 ≤ 30 := by simp [totL, LL]; omega
  refine ((RMerge_c w hs (show SlRows KTh lo2 hi2 w [_] [x] from ⟨⟨_, _, _, rfl, hc, hx⟩, trivial⟩) hhi hhi2 (by omega) (by omega)).mono fun _ _ h => fresh_t h).mono fun r w' ⟨A, c, h1, h2, h3, h4⟩ => ⟨_, A, c, rfl, Nat.le_trans (mgC_len _ 1 _ rfl) ht, h1, h2, h3, h4⟩
theorem ronce_q {lo hi : Nat} {A : Option Addr} {n c : Nat} {l : List TH} (w : World) (hs : Sl KTh lo hi w A n l) (hn : l.length ≤ 30) : Ret Try.prog 27 #[.slice A n c] w fun r w' => ∃ q A c, q = onceL none l ∧ q.length ≤ 30 ∧ r = .slice A q.length c ∧ q.length ≤ c ∧ Sl KTh w.heap.size w'.heap.size w' A q.length q ∧ Keep w w' :=
  ((ROnce_c w hs (by have := hs.len; omega)).mono fun _ _ h => fresh_t h).mono fun r w' ⟨A, c, h1, h2, h3, h4⟩ => ⟨_, A, c, rfl, Nat.le_trans (once_len _ _) hn, h1, h2, h3, h4⟩
theorem any_take {x y : TH} {b : List TH} {j : Nat} (hy : b[j]? = some y) : anyT x (b.take (j + 1)) = (anyT x (b.take j) || decide (x.1 = y.1)) := by
  rw [take_at hy]; simp [anyT, List.any_append]
-- f7 "pedigree/pedigreelaw09.MergeSets" params [24, 24] results [4] -> [(ResultVar.tmp 4)] nfree 0 ntmps 129 
set_option maxHeartbeats 4000000 in
set_option maxRecDepth 100000 in
theorem MergeSets_c (w : World) (A1 : Option Addr) (n1 c1 : Nat) (l1 : List TH) (hc1 : n1 ≤ c1) (s1 : Sl (Kd.pair (KN .i8) KI) 0 w.heap.size w A1 n1 l1) (A2 : Option Addr) (n2 c2 : Nat) (l2 : List TH) (hc2 : n2 ≤ c2) (s2 : Sl (Kd.pair (KN .i8) KI) 0 w.heap.size w A2 n2 l2) :
    Ret Try.prog 7 #[.slice A1 n1 c1, .slice A2 n2 c2] w fun r w' => r = .bool true ∧ Keep w w' := by
  have hsx := sl_things s1
  have hsy := sl_things s2
  refine X.enter Try.func7 rfl Try.ntmps7 rfl ?_
  refine X.seq ?_
  refine X.region ?_
  refine X.opw X.wN rfl (X.assign rfl) ?_
  refine X.opsEnd ?_
  refine X.seq ?_
  refine X.region ?_
  refine X.opw X.wN rfl (X.move (v := .slice _ _ _) rfl) ?_
  refine X.opE X.wN rfl (X.callE (single_q _ hsx (by omega) (by omega)) Try.call31 rfl rfl) ?_
  rintro _ w1 ⟨q1, A1, c1, hq1, hl1, rfl, hc1, hs1, hk1⟩
  have hk1' := hk1.size
  refine X.opE X.wN rfl (X.litKF KR1_flat (K := KR1) (xs := [Operand.tmp 15]) (vs := [.slice A1 q1.length c1]) (ys := [.slice A1 q1.length c1]) Try.underlying22 Try.sizeOf24 Try.zeroValue24 rfl rfl rfl rfl rfl (reps_1 rfl rfl)) ?_
  rintro _ w2 ⟨rfl, hs2, hB2, hk2, hz2⟩
  refine X.opE X.wN rfl (X.callE (rmerge_q _ hs2 (by omega) (hs1.keep hk2) (by omega) (by omega) (by omega)) Try.call25 rfl rfl) ?_
  rintro _ w3 ⟨q3, A3, c3, hq3, hl3, rfl, hc3, hs3, hk3⟩
  have hk3' := hk3.size
  refine X.opE X.wN rfl (X.callE (ronce_q _ hs3 (by omega)) Try.call27 rfl rfl) ?_
  rintro _ w4 ⟨q4, A4, c4, hq4, hl4, rfl, hc4, hs4, hk4⟩
  have hk4' := hk4.size
  refine X.opw X.wN rfl (X.move (v := .slice _ _ _) rfl) ?_
  refine X.opE X.wN rfl (X.callE (single_q _ (hsy.keep (((hk1.trans hk2).trans hk3).trans hk4)) (by omega) (by omega)) Try.call31 rfl rfl) ?_
  rintro _ w5 ⟨q5, A5, c5, hq5, hl5, rfl, hc5, hs5, hk5⟩
  have hk5' := hk5.size
  refine X.opE X.wN rfl (X.litKF KR1_flat (K := KR1) (xs := [Operand.tmp 20]) (vs := [.slice A5 q5.length c5]) (ys := [.slice A5 q5.length c5]) Try.underlying22 Try.sizeOf24 Try.zeroValue24 rfl rfl rfl rfl rfl (reps_1 rfl rfl)) ?_
  rintro _ w6 ⟨rfl, hs6, hB6, hk6, hz6⟩
  refine X.opE X.wN rfl (X.callE (rmerge_q _ hs6 (by omega) (hs5.keep hk6) (by omega) (by omega) (by omega)) Try.call25 rfl rfl) ?_
  rintro _ w7 ⟨q7, A7, c7, hq7, hl7, rfl, hc7, hs7, hk7⟩
  have hk7' := hk7.size
  refine X.opE X.wN rfl (X.callE (ronce_q _ hs7 (by omega)) Try.call27 rfl rfl) ?_
  rintro _ w8 ⟨q8, A8, c8, hq8, hl8, rfl, hc8, hs8, hk8⟩
  have hk8' := hk8.size
  refine X.opw X.wN rfl (X.assign (v := .slice _ _ _) rfl) ?_
  refine X.opw X.wN rfl (X.assign (v := .slice _ _ _) rfl) ?_
  refine X.opsEnd ?_
  refine X.seq ?_
  refine X.region ?_
  refine X.opw X.wN rfl (X.move (v := .slice _ _ _) rfl) ?_
  refine X.opE X.wN rfl (X.callE (Of_c w.heap.size _ (hs4.keep (((hk5.trans hk6).trans hk7).trans hk8)) (by omega) (by omega)) Try.call20 rfl rfl) ?_
  rintro _ w9 ⟨bm9, rfl, hC9, hk9⟩
  have hk9' := hk9.size
  refine X.opw X.wN rfl (X.move (v := .slice _ _ _) rfl) ?_
  refine X.opE X.wN rfl (X.callE (Of_c w.heap.size _ (hs8.keep hk9) (by omega) (by omega)) Try.call20 rfl rfl) ?_
  rintro _ w10 ⟨bm10, rfl, hC10, hk10⟩
  have hk10' := hk10.size
  refine X.opE X.wN rfl (X.callE (Both_c _ (hC9.keep hk10) hC10 (by omega) (by omega) (by omega) (by omega) (by omega) cmpOk17) Try.call28 rfl rfl) ?_
  rintro _ w11 ⟨⟨p11, rfl⟩, hC11, hk11⟩
  have hk11' := hk11.size
  refine X.opE X.wN rfl (X.callE (rest_b _ (CV.cur hC11) (by omega) (fun k hk => by (try simp only [] at *); omega) (Nat.lt_of_le_of_lt (heldL_len _ _ _) (by omega))) Try.call15 rfl rfl) ?_
  rintro _ w12 ⟨v12, rfl, hM12, hx12⟩
  have hx12' := hx12.size
  refine X.opw X.wN rfl (X.move rfl) ?_
  refine X.opw X.wN rfl (X.extr rfl rfl) ?_
  refine X.opw X.wN rfl (X.extr rfl rfl) ?_
  refine X.opw X.wN rfl (X.assign rfl) ?_
  refine X.opw X.wN rfl (X.assign (v := .bool _) rfl) ?_
  refine X.opsEnd ?_
  refine X.seq ?_
  refine X.region ?_
  refine X.opw X.wN rfl (X.move (v := .slice _ _ _) rfl) ?_
  refine X.opE X.wN rfl (X.callE (Of_c w.heap.size _ ((hs4.keep ((((((hk5.trans hk6).trans hk7).trans hk8).trans hk9).trans hk10).trans hk11)).ext hx12 (by intros; (try simp only []); omega)) (by omega) (by omega)) Try.call20 rfl rfl) ?_
  rintro _ w13 ⟨bm13, rfl, hC13, hk13⟩
  have hk13' := hk13.size
  refine X.opw X.wN rfl (X.move (v := .slice _ _ _) rfl) ?_
  refine X.opE X.wN rfl (X.callE (Of_c w.heap.size _ (((hs8.keep ((hk9.trans hk10).trans hk11)).ext hx12 (by intros; (try simp only []); omega)).keep hk13) (by omega) (by omega)) Try.call20 rfl rfl) ?_
  rintro _ w14 ⟨bm14, rfl, hC14, hk14⟩
  have hk14' := hk14.size
  refine X.opE X.wN rfl (X.callE (Less_c _ (hC13.keep hk14) hC14 (by omega) (by omega) (by omega) (by omega) (by omega) cmpOk17) Try.call29 rfl rfl) ?_
  rintro _ w15 ⟨⟨p15, rfl⟩, hC15, hk15⟩
  have hk15' := hk15.size
  refine X.opE X.wN rfl (X.callE (rest_b _ (CV.cur hC15) (by omega) (fun k hk => by (try simp only [] at *); omega) (Nat.lt_of_le_of_lt (heldL_len _ _ _) (by omega))) Try.call15 rfl rfl) ?_
  rintro _ w16 ⟨v16, rfl, hM16, hx16⟩
  have hx16' := hx16.size
  refine X.opw X.wN rfl (X.move rfl) ?_
  refine X.opw X.wN rfl (X.extr rfl rfl) ?_
  refine X.opw X.wN rfl (X.extr rfl rfl) ?_
  refine X.opw X.wN rfl (X.assign rfl) ?_
  refine X.opw X.wN rfl (X.assign (v := .bool _) rfl) ?_
  refine X.opsEnd ?_
  refine X.seq ?_
  refine X.seq ?_
  refine X.region ?_
  refine X.opw X.wN rfl (X.move (v := .bool true) rfl) ?_
  refine X.opw X.wN rfl (X.not_ rfl) ?_
  refine X.opw X.wN rfl (X.move (v := .bool false) rfl) ?_
  refine X.opw (X.wG rfl rfl rfl) rfl (X.move (v := .bool true) rfl) ?_
  refine X.opw (X.wG rfl rfl rfl) rfl (X.not_ rfl) ?_
  refine X.opw X.wN rfl (X.pickF (v := .bool false) rfl rfl) ?_
  refine X.opsEnd ?_
  refine X.condF rfl ?_
  refine X.skip ?_
  refine X.seq ?_
  refine X.region ?_
  refine X.opw X.wN rfl (X.assign rfl) ?_
  refine X.opw X.wN rfl (X.assign rfl) ?_
  refine X.opsEnd ?_
  refine X.seq ?_
  refine X.seq ?_
  refine X.region ?_
  refine X.opw X.wN rfl (X.assign rfl) ?_
  refine X.opsEnd ?_
  refine X.block ?_
  -- LOOP live: 0=a, 1=b, 5=x, 7=y, 9=i*, 10=k*, 11=n*
  have ea : q4 = setL l1 := by rw [hq4, hq3, hq1]; rfl
  have eb : q8 = setL l2 := by rw [hq8, hq7, hq5]; rfl
  have hsa : Strict q4 := ea ▸ set_strict l1
  have hsb : Strict q8 := eb ▸ set_strict l2
  obtain ⟨A5, c5, e5, hc5, hs5⟩ := ((hM12.keep ((hk13.trans hk14).trans hk15)).ext hx16 (by intros; (try simp only []); omega) (by intros; (try simp only []); omega)).slF KTh_flat 0 (fun _ _ => Nat.zero_le _)
  obtain ⟨A7, c7, e7, hc7, hs7⟩ := hM16.slF KTh_flat 0 (fun _ _ => Nat.zero_le _)
  subst e5
  subst e7
  have hla := held_filter true q4 q8 hsa hsb
  have hlb := held_filter false q4 q8 hsa hsb
  have hsA := ((((hs4.keep ((((((hk5.trans hk6).trans hk7).trans hk8).trans hk9).trans hk10).trans hk11)).ext hx12 (by intros; (try simp only []); omega)).keep ((hk13.trans hk14).trans hk15)).ext hx16 (by intros; (try simp only []); omega))
  have hsB := ((((hs8.keep ((hk9.trans hk10).trans hk11)).ext hx12 (by intros; (try simp only []); omega)).keep ((hk13.trans hk14).trans hk15)).ext hx16 (by intros; (try simp only []); omega))
  have hn5 := heldL_len true q4 q8
  have hn7 := heldL_len false q4 q8
  have hW0 := (Keep.refl w16)
  refine X.loopL (σ := Nat) (fun s => [(0, .slice A4 q4.length c4), (1, .slice A8 q8.length c8), (5, .slice A5 (heldL true q4 q8).length c5), (7, .slice A7 (heldL false q4 q8).length c7), (9, .int .i64 (((((q4.take s).filter (fun x => anyT x q8 == true)).length : Nat)) : Int)), (10, .int .i64 (((((q4.take s).filter (fun x => anyT x q8 == false)).length : Nat)) : Int)), (11, .int .i64 (s : Int))]) (fun s w' => s ≤ q4.length ∧ Keep w16 w' ∧ Keep w w') (fun s => q4.length - s) 0 ⟨rfl, rfl, rfl, rfl, rfl, rfl, rfl, trivial⟩ ⟨Nat.zero_le _, Keep.refl _, (((((((((((((((hk1.trans hk2).trans hk3).trans hk4).trans hk5).trans hk6).trans hk7).trans hk8).trans hk9).trans hk10).trans hk11).step hx12 (by intros; (try simp only [] at *); omega)).trans hk13).trans hk14).trans hk15).step hx16 (by intros; (try simp only [] at *); omega))⟩ ?_
  rintro i b0 wl ⟨hi, hwl, hk⟩ hback
  have hk' := hk.size
  refine X.seq ?_
  refine X.seq ?_
  refine X.region ?_
  refine X.opw X.wN rfl (X.move (v := .int .i64 _) rfl) ?_
  refine X.opw X.wN rfl (X.move (v := .slice _ _ _) rfl) ?_
  refine X.opw X.wN rfl (X.lenSl Try.underlying24 rfl) ?_
  refine X.opP X.wN rfl rfl (X.lss rfl rfl) (fun h51 => ?_) (fun h51 => ?_)
  · obtain ⟨x, hx⟩ := get2 (l := q4) i rfl (by omega)
    refine X.opsEnd ?_
    refine X.condT rfl ?_
    refine X.skip ?_
    refine X.seq ?_
    refine X.block ?_
    refine X.seq ?_
    refine X.region ?_
    refine X.opw X.wN rfl (X.assign rfl) ?_
    refine X.opsEnd ?_
    refine X.seq ?_
    refine X.seq ?_
    refine X.region ?_
    refine X.opw X.wN rfl (X.assign rfl) ?_
    refine X.opsEnd ?_
    refine X.block ?_
    -- LOOP live: 0=a, 1=b, 5=x, 7=y, 9=i, 10=k, 11=n, 12=there*, 13=m*
    refine X.loopL (σ := Nat) (fun s => [(0, .slice A4 q4.length c4), (1, .slice A8 q8.length c8), (5, .slice A5 (heldL true q4 q8).length c5), (7, .slice A7 (heldL false q4 q8).length c7), (9, .int .i64 (((((q4.take i).filter (fun x => anyT x q8 == true)).length : Nat)) : Int)), (10, .int .i64 (((((q4.take i).filter (fun x => anyT x q8 == false)).length : Nat)) : Int)), (11, .int .i64 (i : Int)), (12, .bool (anyT x (q8.take s))), (13, .int .i64 (s : Int))]) (fun s w' => s ≤ q8.length ∧ Keep wl w' ∧ Keep w w') (fun s => q8.length - s) 0 ⟨rfl, rfl, rfl, rfl, rfl, rfl, rfl, rfl, rfl, trivial⟩ ⟨Nat.zero_le _, Keep.refl _, hk⟩ ?_
    rintro j b2 wm ⟨hj, hwm, hkm⟩ hback2
    have hkm' := hkm.size
    refine X.seq ?_
    refine X.seq ?_
    refine X.region ?_
    refine X.opw X.wN rfl (X.move (v := .int .i64 _) rfl) ?_
    refine X.opw X.wN rfl (X.move (v := .slice _ _ _) rfl) ?_
    refine X.opw X.wN rfl (X.lenSl Try.underlying24 rfl) ?_
    refine X.opP X.wN rfl rfl (X.lss rfl rfl) (fun h57 => ?_) (fun h57 => ?_)
    · obtain ⟨y, hy⟩ := get2 (l := q8) j rfl (by omega)
      refine X.opsEnd ?_
      refine X.condT rfl ?_
      refine X.skip ?_
      refine X.seq ?_
      refine X.block ?_
      refine X.regionD (fun _ => False) 13 (by kernel_rfl) (by kernel_rfl) (fun w17 hk17 hz17 => ?_)
      refine X.dTake 0 rfl (by kernel_rfl) (by kernel_rfl) (by kernel_rfl) (X.dwN rfl) (fun w' hk' => X.move (v := .bool _) rfl) ?_
      refine X.dTake 1 rfl (by kernel_rfl) (by kernel_rfl) (by kernel_rfl) (X.dwN rfl) (fun w' hk' => X.move (v := .bool _) rfl) ?_
      refine X.dFork 61 rfl (fun h61 => ?_) (fun h61 => ?_)
      · refine X.dTakeS 2 rfl (by kernel_rfl) (by kernel_rfl) (by kernel_rfl) rfl rfl rfl rfl ?_
        refine X.dTakeS 3 rfl (by kernel_rfl) (by kernel_rfl) (by kernel_rfl) rfl rfl rfl rfl ?_
        refine X.dTakeS 4 rfl (by kernel_rfl) (by kernel_rfl) (by kernel_rfl) rfl rfl rfl rfl ?_
        refine X.dTakeS 5 rfl (by kernel_rfl) (by kernel_rfl) (by kernel_rfl) rfl rfl rfl rfl ?_
        refine X.dTakeS 6 rfl (by kernel_rfl) (by kernel_rfl) (by kernel_rfl) rfl rfl rfl rfl ?_
        refine X.dSkip (i := 7) (by kernel_rfl) rfl rfl rfl rfl rfl ?_
        refine X.dSkip (i := 8) (by kernel_rfl) rfl rfl rfl rfl rfl ?_
        refine X.dSkip (i := 9) (by kernel_rfl) rfl rfl rfl rfl rfl ?_
        refine X.dSkip (i := 10) (by kernel_rfl) rfl rfl rfl rfl rfl ?_
        refine X.dSkip (i := 11) (by kernel_rfl) rfl rfl rfl rfl rfl ?_
        refine X.dTake 12 rfl (by kernel_rfl) (by kernel_rfl) (by kernel_rfl) (X.dwN rfl) (fun w' hk' => X.pickT (v := .bool true) rfl rfl) ?_
        refine X.dStep (i := 13) (by kernel_rfl) rfl (X.dwN rfl) (X.assign (v := .bool true) rfl) (fun h => absurd h (by decide)) ?_
        refine X.dEnd (by kernel_rfl) ?_
        refine X.inBlock ?_
        refine X.region ?_
        refine X.opw X.wN rfl (X.move (v := .int .i64 _) rfl) ?_
        refine X.opw X.wN rfl (X.add rfl rfl (X.w_i64 (by omega))) ?_
        refine X.opw X.wN rfl (X.assign (v := .int .i64 _) rfl) ?_
        refine X.opsEnd ?_
        have hany : anyT x (q8.take (j + 1)) = true := by rw [any_take hy, h61]; rfl
        refine hback2 (j + 1) _ _ ⟨(by first | rfl | (rw [hany]; rfl)), (by first | rfl | (rw [hany]; rfl)), (by first | rfl | (rw [hany]; rfl)), (by first | rfl | (rw [hany]; rfl)), (by first | rfl | (rw [hany]; rfl)), (by first | rfl | (rw [hany]; rfl)), (by first | rfl | (rw [hany]; rfl)), (by first | rfl | (rw [hany]; rfl)), (by first | rfl | (rw [hany]; rfl)), trivial⟩ ⟨by omega, (hwm.trans hk17), (hkm.trans hk17)⟩ (by omega)
      · refine X.dTake 2 rfl (by kernel_rfl) (by kernel_rfl) (by kernel_rfl) (X.dwG rfl rfl rfl) (fun w' hk' => X.move (v := .slice _ _ _) rfl) ?_
        refine X.dTake 3 rfl (by kernel_rfl) (by kernel_rfl) (by kernel_rfl) (X.dwG rfl rfl rfl) (fun w' hk' => X.move (v := .int .i64 _) rfl) ?_
        refine X.dTake 4 rfl (by kernel_rfl) (by kernel_rfl) (by kernel_rfl) (X.dwG rfl rfl rfl) (fun w' hk' => X.idxS (((hsA.keep hwl).keep hwm).keep (hk17.trans hk')) Try.underlying24 Try.sizeOf29 rfl rfl ⟨by omega, by omega⟩) ?_
        refine X.dTake 5 rfl (by kernel_rfl) (by kernel_rfl) (by kernel_rfl) (X.dwG rfl rfl rfl) (fun w' hk' => X.loadSN Try.isAgg29 Try.sizeOf29 (((hsA.keep hwl).keep hwm).keep (hk17.trans hk')) hx rfl (fun _ h => h.1) rfl) ?_
        refine X.dTake 6 rfl (by kernel_rfl) (by kernel_rfl) (by kernel_rfl) (X.dwG rfl rfl rfl) (fun w' hk' => X.move (v := .slice _ _ _) rfl) ?_
        refine X.dTake 7 rfl (by kernel_rfl) (by kernel_rfl) (by kernel_rfl) (X.dwG rfl rfl rfl) (fun w' hk' => X.move (v := .int .i64 _) rfl) ?_
        refine X.dTake 8 rfl (by kernel_rfl) (by kernel_rfl) (by kernel_rfl) (X.dwG rfl rfl rfl) (fun w' hk' => X.idxS (((hsB.keep hwl).keep hwm).keep (hk17.trans hk')) Try.underlying24 Try.sizeOf29 rfl rfl ⟨by omega, by omega⟩) ?_
        refine X.dTake 9 rfl (by kernel_rfl) (by kernel_rfl) (by kernel_rfl) (X.dwG rfl rfl rfl) (fun w' hk' => X.loadSN Try.isAgg29 Try.sizeOf29 (((hsB.keep hwl).keep hwm).keep (hk17.trans hk')) hy rfl (fun _ h => h.1) rfl) ?_
        refine X.dE (i := 10) (by kernel_rfl) rfl (X.dwG rfl rfl rfl) (X.callE (Compare_c x y _) Try.call17 rfl rfl) (by rintro _ w18 ⟨nc18, rfl, hlt18, hgt18, hk18⟩ _; exact hk18.mono (fun _ _ h => h.elim)) ?_
        rintro _ w18 ⟨nc18, rfl, hlt18, hgt18, hk18⟩
        have hk18' := hk18.size
        refine X.dTake 11 rfl (by kernel_rfl) (by kernel_rfl) (by kernel_rfl) (X.dwG rfl rfl rfl) (fun w' hk' => X.eqI rfl rfl) ?_
        refine X.dTake 12 rfl (by kernel_rfl) (by kernel_rfl) (by kernel_rfl) (X.dwN rfl) (fun w' hk' => X.pickF (v := .bool _) rfl rfl) ?_
        refine X.dStep (i := 13) (by kernel_rfl) rfl (X.dwN rfl) (X.assign (v := .bool _) rfl) (fun h => absurd h (by decide)) ?_
        refine X.dEnd (by kernel_rfl) ?_
        refine X.inBlock ?_
        refine X.region ?_
        refine X.opw X.wN rfl (X.move (v := .int .i64 _) rfl) ?_
        refine X.opw X.wN rfl (X.add rfl rfl (X.w_i64 (by omega))) ?_
        refine X.opw X.wN rfl (X.assign (v := .int .i64 _) rfl) ?_
        refine X.opsEnd ?_
        have hany : anyT x (q8.take (j + 1)) = decide (nc18 = 0) := by rw [any_take hy, h61, Bool.false_or]; exact decide_eq_decide.2 (cmp_eq hlt18 hgt18).symm
        refine hback2 (j + 1) _ _ ⟨(by first | rfl | (rw [hany]; rfl)), (by first | rfl | (rw [hany]; rfl)), (by first | rfl | (rw [hany]; rfl)), (by first | rfl | (rw [hany]; rfl)), (by first | rfl | (rw [hany]; rfl)), (by first | rfl | (rw [hany]; rfl)), (by first | rfl | (rw [hany]; rfl)), (by first | rfl | (rw [hany]; rfl)), (by first | rfl | (rw [hany]; rfl)), trivial⟩ ⟨by omega, ((hwm.trans hk17).trans hk18), ((hkm.trans hk17).trans hk18)⟩ (by omega)
    · have hjb : q8.length ≤ j := by omega
      rw [List.take_of_length_le hjb]
      refine X.opsEnd ?_
      refine X.condF rfl ?_
      refine X.exit rfl ?_
      refine X.block ?_
      refine X.seq ?_
      refine X.regionD (fun _ => False) 19 (by kernel_rfl) (by kernel_rfl) (fun w19 hk19 hz19 => ?_)
      refine X.dTake 0 rfl (by kernel_rfl) (by kernel_rfl) (by kernel_rfl) (X.dwN rfl) (fun w' hk' => X.move (v := .bool _) rfl) ?_
      refine X.dTake 1 rfl (by kernel_rfl) (by kernel_rfl) (by kernel_rfl) (X.dwN rfl) (fun w' hk' => X.move (v := .bool _) rfl) ?_
      refine X.dFork 75 rfl (fun h75 => ?_) (fun h75 => ?_)
      · have hf : (anyT x q8 == true) = true := by rw [h75]; rfl
        obtain ⟨hfa, hfb⟩ := filter_at (f := fun x => anyT x q8 == true) hx hf
        rw [← hla] at hfa
        have hno := filter_no (f := fun x => anyT x q8 == false) hx (show (anyT x q8 == false) = false by rw [h75]; rfl)
        have hfl := (List.getElem?_eq_some_iff.1 hfa).1
        refine X.dTake 2 rfl (by kernel_rfl) (by kernel_rfl) (by kernel_rfl) (X.dwG rfl rfl rfl) (fun w' hk' => X.move (v := .int .i64 _) rfl) ?_
        refine X.dTake 3 rfl (by kernel_rfl) (by kernel_rfl) (by kernel_rfl) (X.dwG rfl rfl rfl) (fun w' hk' => X.move (v := .slice _ _ _) rfl) ?_
        refine X.dTake 4 rfl (by kernel_rfl) (by kernel_rfl) (by kernel_rfl) (X.dwG rfl rfl rfl) (fun w' hk' => X.lenSl Try.underlying24 rfl) ?_
        refine X.dTake 5 rfl (by kernel_rfl) (by kernel_rfl) (by kernel_rfl) (X.dwG rfl rfl rfl) (fun w' hk' => X.lss rfl rfl) ?_
        refine X.dTake 6 rfl (by kernel_rfl) (by kernel_rfl) (by kernel_rfl) (X.dwN rfl) (fun w' hk' => X.pickT (v := .bool _) rfl rfl) ?_
        refine X.dTake 7 rfl (by kernel_rfl) (by kernel_rfl) (by kernel_rfl) (X.dwN rfl) (fun w' hk' => X.move (v := .bool _) rfl) ?_
        refine X.dFork 81 rfl (fun h81 => ?_) (fun h81 => ?_)
        · refine X.dTake 8 rfl (by kernel_rfl) (by kernel_rfl) (by kernel_rfl) (X.dwG rfl rfl rfl) (fun w' hk' => X.move (v := .slice _ _ _) rfl) ?_
          refine X.dTake 9 rfl (by kernel_rfl) (by kernel_rfl) (by kernel_rfl) (X.dwG rfl rfl rfl) (fun w' hk' => X.move (v := .int .i64 _) rfl) ?_
          refine X.dTake 10 rfl (by kernel_rfl) (by kernel_rfl) (by kernel_rfl) (X.dwG rfl rfl rfl) (fun w' hk' => X.idxS (((hs5.keep hwl).keep hwm).keep (hk19.trans hk')) Try.underlying24 Try.sizeOf29 rfl rfl ⟨by omega, by omega⟩) ?_
          refine X.dTake 11 rfl (by kernel_rfl) (by kernel_rfl) (by kernel_rfl) (X.dwG rfl rfl rfl) (fun w' hk' => X.loadSN Try.isAgg29 Try.sizeOf29 (((hs5.keep hwl).keep hwm).keep (hk19.trans hk')) hfa rfl (fun _ h => h.1) rfl) ?_
          refine X.dTake 12 rfl (by kernel_rfl) (by kernel_rfl) (by kernel_rfl) (X.dwG rfl rfl rfl) (fun w' hk' => X.move (v := .slice _ _ _) rfl) ?_
          refine X.dTake 13 rfl (by kernel_rfl) (by kernel_rfl) (by kernel_rfl) (X.dwG rfl rfl rfl) (fun w' hk' => X.move (v := .int .i64 _) rfl) ?_
          refine X.dTake 14 rfl (by kernel_rfl) (by kernel_rfl) (by kernel_rfl) (X.dwG rfl rfl rfl) (fun w' hk' => X.idxS (((hsA.keep hwl).keep hwm).keep (hk19.trans hk')) Try.underlying24 Try.sizeOf29 rfl rfl ⟨by omega, by omega⟩) ?_
          refine X.dTake 15 rfl (by kernel_rfl) (by kernel_rfl) (by kernel_rfl) (X.dwG rfl rfl rfl) (fun w' hk' => X.loadSN Try.isAgg29 Try.sizeOf29 (((hsA.keep hwl).keep hwm).keep (hk19.trans hk')) hx rfl (fun _ h => h.1) rfl) ?_
          refine X.dTake 16 rfl (by kernel_rfl) (by kernel_rfl) (by kernel_rfl) (X.dwG rfl rfl rfl) (fun w' hk' => X.eqA eqT_guard rfl rfl (eqT x x _)) ?_
          refine X.dTake 17 rfl (by kernel_rfl) (by kernel_rfl) (by kernel_rfl) (X.dwN rfl) (fun w' hk' => X.pickT (v := .bool _) rfl rfl) ?_
          refine X.dTake 18 rfl (by kernel_rfl) (by kernel_rfl) (by kernel_rfl) (X.dwN rfl) (fun w' hk' => X.assign (v := .bool _) rfl) ?_
          refine X.dEnd (by kernel_rfl) ?_
          refine X.condB rfl (fun hc => ?_) (fun hc => ?_)
          · refine X.region ?_
            refine X.opw X.wN rfl (X.move (v := .int .i64 _) rfl) ?_
            refine X.opw X.wN rfl (X.add (c := ((((q4.take i).filter (fun x => anyT x q8 == true)).length + 1 : Nat) : Int)) rfl rfl (by rw [X.w_i64 (by omega)]; omega)) ?_
            refine X.opw X.wN rfl (X.assign (v := .int .i64 _) rfl) ?_
            refine X.opsEnd ?_
            refine X.inBlock ?_
            refine X.inBlock ?_
            refine X.region ?_
            refine X.opw X.wN rfl (X.move (v := .int .i64 _) rfl) ?_
            refine X.opw X.wN rfl (X.add rfl rfl (X.w_i64 (by omega))) ?_
            refine X.opw X.wN rfl (X.assign (v := .int .i64 _) rfl) ?_
            refine X.opsEnd ?_
            refine hback (i + 1) _ _ ⟨(by first | rfl | (rw [hfb]; rfl) | (rw [hno]; rfl)), (by first | rfl | (rw [hfb]; rfl) | (rw [hno]; rfl)), (by first | rfl | (rw [hfb]; rfl) | (rw [hno]; rfl)), (by first | rfl | (rw [hfb]; rfl) | (rw [hno]; rfl)), (by first | rfl | (rw [hfb]; rfl) | (rw [hno]; rfl)), (by first | rfl | (rw [hfb]; rfl) | (rw [hno]; rfl)), (by first | rfl | (rw [hfb]; rfl) | (rw [hno]; rfl)), trivial⟩ ⟨by omega, ((hwl.trans hwm).trans hk19), (hkm.trans hk19)⟩ (by omega)
          · simp at hc
        · exact absurd (of_decide_eq_false h81) (by omega)
      · have hf : (anyT x q8 == false) = true := by rw [h75]; rfl
        obtain ⟨hfa, hfb⟩ := filter_at (f := fun x => anyT x q8 == false) hx hf
        rw [← hlb] at hfa
        have hno := filter_no (f := fun x => anyT x q8 == true) hx (show (anyT x q8 == true) = false by rw [h75]; rfl)
        have hfl := (List.getElem?_eq_some_iff.1 hfa).1
        refine X.dTakeS 2 rfl (by kernel_rfl) (by kernel_rfl) (by kernel_rfl) rfl rfl rfl rfl ?_
        refine X.dSkip (i := 3) (by kernel_rfl) rfl rfl rfl rfl rfl ?_
        refine X.dSkip (i := 4) (by kernel_rfl) rfl rfl rfl rfl rfl ?_
        refine X.dSkip (i := 5) (by kernel_rfl) rfl rfl rfl rfl rfl ?_
        refine X.dTake 6 rfl (by kernel_rfl) (by kernel_rfl) (by kernel_rfl) (X.dwN rfl) (fun w' hk' => X.pickF (v := .bool false) rfl rfl) ?_
        refine X.dTake 7 rfl (by kernel_rfl) (by kernel_rfl) (by kernel_rfl) (X.dwN rfl) (fun w' hk' => X.move (v := .bool false) rfl) ?_
        refine X.dTakeS 8 rfl (by kernel_rfl) (by kernel_rfl) (by kernel_rfl) rfl rfl rfl rfl ?_
        refine X.dTakeS 9 rfl (by kernel_rfl) (by kernel_rfl) (by kernel_rfl) rfl rfl rfl rfl ?_
        refine X.dTakeS 10 rfl (by kernel_rfl) (by kernel_rfl) (by kernel_rfl) rfl rfl rfl rfl ?_
        refine X.dTakeS 11 rfl (by kernel_rfl) (by kernel_rfl) (by kernel_rfl) rfl rfl rfl rfl ?_
        refine X.dTakeS 12 rfl (by kernel_rfl) (by kernel_rfl) (by kernel_rfl) rfl rfl rfl rfl ?_
        refine X.dSkip (i := 13) (by kernel_rfl) rfl rfl rfl rfl rfl ?_
        refine X.dSkip (i := 14) (by kernel_rfl) rfl rfl rfl rfl rfl ?_
        refine X.dSkip (i := 15) (by kernel_rfl) rfl rfl rfl rfl rfl ?_
        refine X.dSkip (i := 16) (by kernel_rfl) rfl rfl rfl rfl rfl ?_
        refine X.dTake 17 rfl (by kernel_rfl) (by kernel_rfl) (by kernel_rfl) (X.dwN rfl) (fun w' hk' => X.pickF (v := .bool false) rfl rfl) ?_
        refine X.dTake 18 rfl (by kernel_rfl) (by kernel_rfl) (by kernel_rfl) (X.dwN rfl) (fun w' hk' => X.assign (v := .bool false) rfl) ?_
        refine X.dEnd (by kernel_rfl) ?_
        refine X.condF rfl ?_
        refine X.seq ?_
        refine X.regionD (fun _ => False) 20 (by kernel_rfl) (by kernel_rfl) (fun w20 hk20 hz20 => ?_)
        refine X.dTake 0 rfl (by kernel_rfl) (by kernel_rfl) (by kernel_rfl) (X.dwN rfl) (fun w' hk' => X.move (v := .bool _) rfl) ?_
        refine X.dTake 1 rfl (by kernel_rfl) (by kernel_rfl) (by kernel_rfl) (X.dwN rfl) (fun w' hk' => X.not_ rfl) ?_
        refine X.dTake 2 rfl (by kernel_rfl) (by kernel_rfl) (by kernel_rfl) (X.dwN rfl) (fun w' hk' => X.move (v := .bool _) rfl) ?_
        refine X.dFork 97 rfl (fun h97 => ?_) (fun h97 => ?_)
        · refine X.dTake 3 rfl (by kernel_rfl) (by kernel_rfl) (by kernel_rfl) (X.dwG rfl rfl rfl) (fun w' hk' => X.move (v := .int .i64 _) rfl) ?_
          refine X.dTake 4 rfl (by kernel_rfl) (by kernel_rfl) (by kernel_rfl) (X.dwG rfl rfl rfl) (fun w' hk' => X.move (v := .slice _ _ _) rfl) ?_
          refine X.dTake 5 rfl (by kernel_rfl) (by kernel_rfl) (by kernel_rfl) (X.dwG rfl rfl rfl) (fun w' hk' => X.lenSl Try.underlying24 rfl) ?_
          refine X.dTake 6 rfl (by kernel_rfl) (by kernel_rfl) (by kernel_rfl) (X.dwG rfl rfl rfl) (fun w' hk' => X.lss rfl rfl) ?_
          refine X.dTake 7 rfl (by kernel_rfl) (by kernel_rfl) (by kernel_rfl) (X.dwN rfl) (fun w' hk' => X.pickT (v := .bool _) rfl rfl) ?_
          refine X.dTake 8 rfl (by kernel_rfl) (by kernel_rfl) (by kernel_rfl) (X.dwN rfl) (fun w' hk' => X.move (v := .bool _) rfl) ?_
          refine X.dFork 103 rfl (fun h103 => ?_) (fun h103 => ?_)
          · refine X.dTake 9 rfl (by kernel_rfl) (by kernel_rfl) (by kernel_rfl) (X.dwG rfl rfl rfl) (fun w' hk' => X.move (v := .slice _ _ _) rfl) ?_
            refine X.dTake 10 rfl (by kernel_rfl) (by kernel_rfl) (by kernel_rfl) (X.dwG rfl rfl rfl) (fun w' hk' => X.move (v := .int .i64 _) rfl) ?_
            refine X.dTake 11 rfl (by kernel_rfl) (by kernel_rfl) (by kernel_rfl) (X.dwG rfl rfl rfl) (fun w' hk' => X.idxS (((hs7.keep hwl).keep hwm).keep ((hk19.trans hk20).trans hk')) Try.underlying24 Try.sizeOf29 rfl rfl ⟨by omega, by omega⟩) ?_
            refine X.dTake 12 rfl (by kernel_rfl) (by kernel_rfl) (by kernel_rfl) (X.dwG rfl rfl rfl) (fun w' hk' => X.loadSN Try.isAgg29 Try.sizeOf29 (((hs7.keep hwl).keep hwm).keep ((hk19.trans hk20).trans hk')) hfa rfl (fun _ h => h.1) rfl) ?_
            refine X.dTake 13 rfl (by kernel_rfl) (by kernel_rfl) (by kernel_rfl) (X.dwG rfl rfl rfl) (fun w' hk' => X.move (v := .slice _ _ _) rfl) ?_
            refine X.dTake 14 rfl (by kernel_rfl) (by kernel_rfl) (by kernel_rfl) (X.dwG rfl rfl rfl) (fun w' hk' => X.move (v := .int .i64 _) rfl) ?_
            refine X.dTake 15 rfl (by kernel_rfl) (by kernel_rfl) (by kernel_rfl) (X.dwG rfl rfl rfl) (fun w' hk' => X.idxS (((hsA.keep hwl).keep hwm).keep ((hk19.trans hk20).trans hk')) Try.underlying24 Try.sizeOf29 rfl rfl ⟨by omega, by omega⟩) ?_
            refine X.dTake 16 rfl (by kernel_rfl) (by kernel_rfl) (by kernel_rfl) (X.dwG rfl rfl rfl) (fun w' hk' => X.loadSN Try.isAgg29 Try.sizeOf29 (((hsA.keep hwl).keep hwm).keep ((hk19.trans hk20).trans hk')) hx rfl (fun _ h => h.1) rfl) ?_
            refine X.dTake 17 rfl (by kernel_rfl) (by kernel_rfl) (by kernel_rfl) (X.dwG rfl rfl rfl) (fun w' hk' => X.eqA eqT_guard rfl rfl (eqT x x _)) ?_
            refine X.dTake 18 rfl (by kernel_rfl) (by kernel_rfl) (by kernel_rfl) (X.dwN rfl) (fun w' hk' => X.pickT (v := .bool _) rfl rfl) ?_
            refine X.dTake 19 rfl (by kernel_rfl) (by kernel_rfl) (by kernel_rfl) (X.dwN rfl) (fun w' hk' => X.assign (v := .bool _) rfl) ?_
            refine X.dEnd (by kernel_rfl) ?_
            refine X.condB rfl (fun hc => ?_) (fun hc => ?_)
            · refine X.region ?_
              refine X.opw X.wN rfl (X.move (v := .int .i64 _) rfl) ?_
              refine X.opw X.wN rfl (X.add (c := ((((q4.take i).filter (fun x => anyT x q8 == false)).length + 1 : Nat) : Int)) rfl rfl (by rw [X.w_i64 (by omega)]; omega)) ?_
              refine X.opw X.wN rfl (X.assign (v := .int .i64 _) rfl) ?_
              refine X.opsEnd ?_
              refine X.inBlock ?_
              refine X.inBlock ?_
              refine X.region ?_
              refine X.opw X.wN rfl (X.move (v := .int .i64 _) rfl) ?_
              refine X.opw X.wN rfl (X.add rfl rfl (X.w_i64 (by omega))) ?_
              refine X.opw X.wN rfl (X.assign (v := .int .i64 _) rfl) ?_
              refine X.opsEnd ?_
              refine hback (i + 1) _ _ ⟨(by first | rfl | (rw [hfb]; rfl) | (rw [hno]; rfl)), (by first | rfl | (rw [hfb]; rfl) | (rw [hno]; rfl)), (by first | rfl | (rw [hfb]; rfl) | (rw [hno]; rfl)), (by first | rfl | (rw [hfb]; rfl) | (rw [hno]; rfl)), (by first | rfl | (rw [hfb]; rfl) | (rw [hno]; rfl)), (by first | rfl | (rw [hfb]; rfl) | (rw [hno]; rfl)), (by first | rfl | (rw [hfb]; rfl) | (rw [hno]; rfl)), trivial⟩ ⟨by omega, (((hwl.trans hwm).trans hk19).trans hk20), ((hkm.trans hk19).trans hk20)⟩ (by omega)
            · simp at hc
          · exact absurd (of_decide_eq_false h103) (by omega)
        · rw [h75] at h97; simp at h97
  · have hk5 : (((q4.take i).filter (fun x => anyT x q8 == true)).length : Int) = ((heldL true q4 q8).length : Int) := by rw [hla, List.take_of_length_le (show q4.length ≤ i by omega)]
    have hk7 : (((q4.take i).filter (fun x => anyT x q8 == false)).length : Int) = ((heldL false q4 q8).length : Int) := by rw [hlb, List.take_of_length_le (show q4.length ≤ i by omega)]
    refine X.opsEnd ?_
    refine X.condF rfl ?_
    refine X.exit rfl ?_
    refine X.seq ?_
    refine X.region ?_
    refine X.opw X.wN rfl (X.move (v := .int .i64 _) rfl) ?_
    refine X.opw X.wN rfl (X.move (v := .slice _ _ _) rfl) ?_
    refine X.opw X.wN rfl (X.lenSl Try.underlying24 rfl) ?_
    refine X.opP X.wN rfl rfl (X.eqI rfl rfl) (fun h119 => ?_) (fun h119 => ?_)
    · refine X.opw X.wN rfl (X.move (v := .bool true) rfl) ?_
      refine X.opw (X.wG rfl rfl rfl) rfl (X.move (v := .int .i64 _) rfl) ?_
      refine X.opw (X.wG rfl rfl rfl) rfl (X.move (v := .slice _ _ _) rfl) ?_
      refine X.opw (X.wG rfl rfl rfl) rfl (X.lenSl Try.underlying24 rfl) ?_
      refine X.opP (X.wG rfl rfl rfl) rfl rfl (X.eqI rfl rfl) (fun h124 => ?_) (fun h124 => ?_)
      · refine X.opw X.wN rfl (X.pickT (v := .bool true) rfl rfl) ?_
        refine X.opw X.wN rfl (X.move (v := .bool true) rfl) ?_
        refine X.opE (X.wG rfl rfl rfl) rfl (X.callE (alive_c _) Try.call14 rfl rfl) ?_
        rintro _ w21 ⟨rfl, hk21⟩
        have hk21' := hk21.size
        refine X.opw X.wN rfl (X.pickT (v := .bool _) rfl rfl) ?_
        refine X.opw X.wN rfl (X.assign (v := .bool _) rfl) ?_
        refine X.opsEnd ?_
        refine X.ret1 (v := (.bool _)) Try.func7 Try.results7 rfl ?_
        exact ⟨rfl, (hk.trans hk21)⟩
      · exact absurd hk7 h124
    · exact absurd hk5 h119
end Go.Proofs.Ytgfficbkajcdpaa

namespace Go.Proofs.Ytgfficbkajcdpaa
open Go Go.Proofs.Ytgfficbkajcdpaa.X
set_option linter.unusedVariables false
set_option linter.unusedSimpArgs false

def catL (L : Nat → List TH) : Nat → List TH
  | 0 => []
  | n + 1 => catL L n ++ L n
theorem catL_upd {L : Nat → List TH} {x : TH} {l : List TH} {i : Nat} (h : L i = x :: l) : ∀ n, (i < n → (catL L n).Perm (x :: catL (updL L i) n)) ∧ (¬ i < n → catL (updL L i) n = catL L n)
  | 0 => ⟨fun h => by omega, fun _ => rfl⟩
  | n + 1 => by
    obtain ⟨i1, i2⟩ := catL_upd h n
    by_cases e : i = n
    · subst e
      refine ⟨fun _ => ?_, fun h => by omega⟩
      have e1 : updL L i i = l := by simp [updL, h]
      rw [catL, catL, h, e1, i2 (by omega)]
      exact List.perm_middle
    · have e1 : updL L i n = L n := by simp [updL, show ¬ n = i from fun h => e h.symm]
      refine ⟨fun hi => ?_, fun hi => ?_⟩
      · rw [catL, catL, e1]
        exact (i1 (by omega)).append_right (L n)
      · rw [catL, catL, e1, i2 (by omega)]
theorem mg_perm (t n : Nat) (L : Nat → List TH) (h : totL L n ≤ t) : (mgC n L).Perm (catL L n) := by
  induction t generalizing L with
  | zero =>
    cases hp : pk L n with
    | none =>
      have hz := pk_none hp
      have : ∀ m, m ≤ n → catL L m = [] := by
        intro m
        induction m with
        | zero => intro _; rfl
        | succ m ih => intro hm; rw [catL, ih (by omega), hz m (by omega)]; rfl
      rw [mgC_none hp, this n (Nat.le_refl _)]
    | some q =>
      obtain ⟨i, x⟩ := q
      obtain ⟨h1, l, h2⟩ := pk_some hp
      have h3 := totL_upd h2 n
      rw [if_pos h1] at h3
      omega
  | succ t ih =>
    cases hp : pk L n with
    | none =>
      have hz := pk_none hp
      have : ∀ m, m ≤ n → catL L m = [] := by
        intro m
        induction m with
        | zero => intro _; rfl
        | succ m ih => intro hm; rw [catL, ih (by omega), hz m (by omega)]; rfl
      rw [mgC_none hp, this n (Nat.le_refl _)]
    | some q =>
      obtain ⟨i, x⟩ := q
      obtain ⟨h1, l, h2⟩ := pk_some hp
      have h3 := totL_upd h2 n
      rw [if_pos h1] at h3
      rw [mgC_some hp]
      exact ((ih (updL L i) (by omega)).cons x).trans ((catL_upd h2 n).1 h1).symm
theorem pk_first {L : Nat → List TH} : ∀ {n i : Nat} {x : TH}, pk L n = some (i, x) → ∀ j, j < n → ∀ y l, L j = y :: l → x.1 < y.1 ∨ x.1 = y.1 ∧ i ≤ j
  | 0, _, _, h, _, hj, _, _, _ => by omega
  | n + 1, i, x, h, j, hj, y, l, hy => by
    rw [pk] at h
    split at h
    · rename_i hl
      rcases Nat.lt_succ_iff_lt_or_eq.1 hj with h1 | rfl
      · exact pk_first h j h1 y l hy
      · rw [hl] at hy; cases hy
    · rename_i z l' hl hp
      cases h
      rcases Nat.lt_succ_iff_lt_or_eq.1 hj with h1 | rfl
      · have := pk_none hp j h1; rw [this] at hy; cases hy
      · rw [hl] at hy; cases hy; exact .inr ⟨rfl, Nat.le_refl _⟩
    · rename_i z l' i' x' hl hp
      have hin := (pk_some hp).1
      split at h
      · rename_i hlt
        cases h
        rcases Nat.lt_succ_iff_lt_or_eq.1 hj with h1 | rfl
        · have := pk_first hp j h1 y l hy; omega
        · rw [hl] at hy; cases hy; exact .inr ⟨rfl, Nat.le_refl _⟩
      · rename_i hlt
        cases h
        rcases Nat.lt_succ_iff_lt_or_eq.1 hj with h1 | rfl
        · exact pk_first hp j h1 y l hy
        · rw [hl] at hy; cases hy; omega
abbrev LexR (x y : TH) : Prop := x.1 < y.1 ∨ x.1 = y.1 ∧ x.2 < y.2
theorem mg_lex (t n : Nat) (L : Nat → List TH) (h : totL L n ≤ t) (hs : ∀ j, j < n → (L j).Pairwise LexR) (hm : ∀ i j, i < j → j < n → ∀ x y, x ∈ L i → y ∈ L j → x.2 < y.2) : (mgC n L).Pairwise LexR := by
  induction t generalizing L with
  | zero =>
    cases hp : pk L n with
    | none => rw [mgC_none hp]; exact List.Pairwise.nil
    | some q =>
      obtain ⟨i, x⟩ := q
      obtain ⟨h1, l, h2⟩ := pk_some hp
      have h3 := totL_upd h2 n
      rw [if_pos h1] at h3
      omega
  | succ t ih =>
    cases hp : pk L n with
    | none => rw [mgC_none hp]; exact List.Pairwise.nil
    | some q =>
      obtain ⟨i, x⟩ := q
      obtain ⟨h1, l, h2⟩ := pk_some hp
      have h3 := totL_upd h2 n
      rw [if_pos h1] at h3
      have hsub : ∀ j x, x ∈ updL L i j → x ∈ L j := fun j x hx => by
        unfold updL at hx; split at hx
        · exact List.mem_of_mem_tail hx
        · exact hx
      rw [mgC_some hp]
      refine List.pairwise_cons.2 ⟨fun y hy => ?_, ih (updL L i) (by omega) (fun j hj => ?_) (fun a b hab hb x y hx hy => hm a b hab hb x y (hsub _ _ hx) (hsub _ _ hy))⟩
      · obtain ⟨j, hj, hy⟩ := mg_mem _ _ _ rfl y hy
        by_cases e : j = i
        · subst e
          rw [updL, if_pos rfl, h2] at hy
          have := hs j hj
          rw [h2] at this
          exact (List.pairwise_cons.1 this).1 y hy
        · have hy := hsub _ _ hy
          cases hL : L j with
          | nil => rw [hL] at hy; simp at hy
          | cons z l' =>
            have hz := pk_first hp j hj z l' hL
            have hzy : z.1 ≤ y.1 := by
              rw [hL] at hy
              rcases List.mem_cons.1 hy with rfl | hy
              · exact Int.le_refl _
              · have := hs j hj
                rw [hL] at this
                rcases (List.pairwise_cons.1 this).1 y hy with h | h
                · omega
                · omega
            by_cases h5 : x.1 < y.1
            · exact .inl h5
            · have hij : i < j := by omega
              exact .inr ⟨by omega, hm i j hij hj x y (by rw [h2]; exact List.mem_cons_self) hy⟩
      · unfold updL; split
        · have := hs j hj
          cases hL : L j with
          | nil => exact List.Pairwise.nil
          | cons z l' => rw [hL] at this; exact (List.pairwise_cons.1 this).2
        · exact hs j hj
/-- Row i, marked from k on. -/
def mkF (i : Nat) : Nat → List TH → List TH
  | _, [] => []
  | k, x :: l => (x.1, ((30 * i + k : Nat) : Int)) :: mkF i (k + 1) l
theorem mkF_len (i : Nat) : ∀ (k : Nat) (l : List TH), (mkF i k l).length = l.length
  | _, [] => rfl
  | k, x :: l => by rw [mkF, List.length_cons, List.length_cons, mkF_len i (k + 1) l]
theorem mkF_get (i : Nat) : ∀ (a : Nat) (l : List TH) (k : Nat) (x : TH), l[k]? = some x → (mkF i a l)[k]? = some (x.1, ((30 * i + (a + k) : Nat) : Int))
  | _, [], _, _, h => by simp at h
  | a, y :: l, 0, x, h => by simp at h; subst h; rfl
  | a, y :: l, k + 1, x, h => by
    rw [mkF, List.getElem?_cons_succ, mkF_get i (a + 1) l k x (by simpa using h)]
    rw [show 30 * i + (a + 1 + k) = 30 * i + (a + (k + 1)) by omega]
theorem mkF_step (i : Nat) (l : List TH) (k : Nat) (x : TH) (h : l[k]? = some x) : ((mkF i 0 l).take k ++ l.drop k).set k (x.1, ((30 * i + k : Nat) : Int)) = (mkF i 0 l).take (k + 1) ++ l.drop (k + 1) := by
  have hk := (List.getElem?_eq_some_iff.1 h).1
  have h1 : ((mkF i 0 l).take k).length = k := by rw [List.length_take, mkF_len]; omega
  rw [List.set_append_right _ _ (by omega), h1, Nat.sub_self, drop_at h, List.set_cons_zero, take_at (mkF_get i 0 l k x h), List.append_assoc, Nat.zero_add]; rfl
theorem mkF_at {i k : Nat} {l : List TH} {x : TH} (h : l[k]? = some x) : ((mkF i 0 l).take k ++ l.drop k)[k]? = some x := by
  have hk := (List.getElem?_eq_some_iff.1 h).1
  have h1 : ((mkF i 0 l).take k).length = k := by rw [List.length_take, mkF_len]; omega
  rw [List.getElem?_append_right (by omega), h1, Nat.sub_self, drop_at h]; rfl
theorem mkF_mem (i : Nat) : ∀ (a : Nat) (l : List TH) (y : TH), y ∈ mkF i a l → ((30 * i + a : Nat) : Int) ≤ y.2 ∧ y.2 < ((30 * i + a + l.length : Nat) : Int)
  | _, [], y, h => by simp [mkF] at h
  | a, x :: l, y, h => by
    rw [mkF] at h
    rcases List.mem_cons.1 h with rfl | h
    · simp only [List.length_cons]; omega
    · have := mkF_mem i (a + 1) l y h
      simp only [List.length_cons]; omega
theorem mkF_key (i : Nat) : ∀ (a : Nat) (l : List TH) (y : TH), y ∈ mkF i a l → ∃ x, x ∈ l ∧ x.1 = y.1
  | _, [], y, h => by simp [mkF] at h
  | a, x :: l, y, h => by
    rw [mkF] at h
    rcases List.mem_cons.1 h with rfl | h
    · exact ⟨x, List.mem_cons_self, rfl⟩
    · obtain ⟨z, h1, h2⟩ := mkF_key i (a + 1) l y h
      exact ⟨z, List.mem_cons_of_mem _ h1, h2⟩
theorem mkF_lex (i : Nat) : ∀ (a : Nat) (l : List TH), Rise l → (mkF i a l).Pairwise LexR
  | _, [], _ => List.Pairwise.nil
  | a, x :: l, h => by
    obtain ⟨h1, h2⟩ := List.pairwise_cons.1 h
    rw [mkF]
    refine List.pairwise_cons.2 ⟨fun y hy => ?_, mkF_lex i (a + 1) l h2⟩
    obtain ⟨z, h3, h4⟩ := mkF_key i _ l y hy
    have h5 := mkF_mem i _ l y hy
    have h6 := h1 z h3
    show x.1 < y.1 ∨ x.1 = y.1 ∧ ((30 * i + a : Nat) : Int) < y.2
    by_cases e : x.1 < y.1
    · exact .inl e
    · exact .inr ⟨by omega, by omega⟩
theorem lex_rise {l : List TH} (h : l.Pairwise LexR) : Rise l := h.imp fun h => by rcases h with h | h <;> omega
theorem mkF_nodup (i : Nat) : ∀ (a : Nat) (l : List TH), ((mkF i a l).map (·.2)).Nodup
  | _, [] => by simp [mkF]
  | a, x :: l => by
    rw [mkF, List.map_cons, List.nodup_cons]
    refine ⟨fun h => ?_, mkF_nodup i (a + 1) l⟩
    obtain ⟨y, h1, h2⟩ := List.mem_map.1 h
    have := mkF_mem i _ l y h1
    simp only at h2
    omega
section
variable {qs : List (List TH)}
/-- All rows, marked. -/
def LM (qs : List (List TH)) : Nat → List TH := fun j => mkF j 0 (LL qs j)
theorem LL_le (h30 : ∀ l ∈ qs, l.length ≤ 30) (j : Nat) : (LL qs j).length ≤ 30 := by
  rw [LL, List.getD_eq_getElem?_getD]
  cases hq : qs[j]? with
  | none => simp
  | some l => exact h30 l (List.mem_of_getElem? hq)
theorem LM_mem (h30 : ∀ l ∈ qs, l.length ≤ 30) {j : Nat} {y : TH} (h : y ∈ LM qs j) : ((30 * j : Nat) : Int) ≤ y.2 ∧ y.2 < ((30 * j + 30 : Nat) : Int) := by
  have h1 := mkF_mem j 0 _ y h
  have h2 := LL_le h30 j
  omega
theorem cat_mem {L : Nat → List TH} {y : TH} : ∀ {n : Nat}, y ∈ catL L n → ∃ j, j < n ∧ y ∈ L j
  | 0, h => by simp [catL] at h
  | n + 1, h => by
    rw [catL] at h
    rcases List.mem_append.1 h with h | h
    · obtain ⟨j, h1, h2⟩ := cat_mem h
      exact ⟨j, by omega, h2⟩
    · exact ⟨n, by omega, h⟩
theorem cat_nodup (h30 : ∀ l ∈ qs, l.length ≤ 30) : ∀ n, ((catL (LM qs) n).map (·.2)).Nodup
  | 0 => by simp [catL]
  | n + 1 => by
    rw [catL, List.map_append, List.nodup_append]
    refine ⟨cat_nodup h30 n, mkF_nodup n 0 _, fun a ha b hb e => ?_⟩
    obtain ⟨x, h1, rfl⟩ := List.mem_map.1 ha
    obtain ⟨y, h2, rfl⟩ := List.mem_map.1 hb
    obtain ⟨j, h3, h4⟩ := cat_mem h1
    have h5 := LM_mem h30 h4
    have h6 := LM_mem h30 h2
    omega
theorem order_law (h30 : ∀ l ∈ qs, l.length ≤ 30) (hr : ∀ l ∈ qs, Rise l) (n : Nat) : (mgC n (LM qs)).Perm (catL (LM qs) n) ∧ (mgC n (LM qs)).Pairwise LexR ∧ ((mgC n (LM qs)).map (·.2)).Nodup := by
  have h1 := mg_perm _ n (LM qs) (Nat.le_refl _)
  refine ⟨h1, mg_lex _ n (LM qs) (Nat.le_refl _) (fun j _ => mkF_lex j 0 _ ?_) (fun i j hij hj x y hx hy => ?_), ?_⟩
  · rw [LL, List.getD_eq_getElem?_getD]
    cases hq : qs[j]? with
    | none => exact List.Pairwise.nil
    | some l => exact hr l (List.mem_of_getElem? hq)
  · have h5 := LM_mem h30 hx
    have h6 := LM_mem h30 hy
    omega
  · exact (h1.map (·.2)).nodup_iff.2 (cat_nodup h30 n)
end
end Go.Proofs.Ytgfficbkajcdpaa

namespace Go.Proofs.Ytgfficbkajcdpaa.X
open Go
section
variable {P : Program} {ρ : Operand → Value} {w : World} {dst : Option Tmp} {ty : TypeId} {pos : String} {aft : Array Edge} {g : Option (Nat × Bool)}
theorem gtD {T T' : TypeId} {x y : Operand} {a b : ByteArray} (hx : ρ x = .string a) (hy : ρ y = .string b) : Does P ⟨dst, .binOp .gtr T x y T', ty, pos, aft, g⟩ ρ w (.bool (Op.bytesLess b.data.toList a.data.toList)) w := by
  have key : Op.bytesLess b.data.toList a.data.toList = !(Op.bytesLess a.data.toList b.data.toList || a.data.toList == b.data.toList) := by
    generalize a.data.toList = x
    generalize b.data.toList = y
    induction x generalizing y with
    | nil => cases y <;> simp [Op.bytesLess]
    | cons c x ih =>
      cases y with
      | nil => simp [Op.bytesLess]
      | cons d y =>
        simp only [Op.bytesLess]
        rw [ih y]
        by_cases h : c = d
        · subst h; simp
        · have h2 : ¬ d = c := fun e => h e.symm
          have : (d < c) ↔ ¬ (c < d) := by
            constructor
            · intro h3 h4; exact absurd (UInt8.lt_trans h3 h4) (UInt8.lt_irrefl _)
            · intro h3; exact UInt8.lt_of_le_of_ne (UInt8.not_lt.1 h3) h2
          by_cases h3 : c < d <;> simp [h, h2, h3, this]
  exact does_run rfl (by
    simp only [execOp, hx, hy, binOp, eqGuard, Op.stringOp]
    simp only [ByteArray.toList_eq, key]
    simp)
end
end Go.Proofs.Ytgfficbkajcdpaa.X

namespace Go.Proofs.Ytgfficbkajcdpaa.X
open Go
set_option linter.unusedVariables false
set_option linter.unusedSimpArgs false

section
variable {α : Type} {K : Kd α} {lo hi : Nat} {w : World}
theorem Reps.take : ∀ {xs : List α} {cs : List Value} (m : Nat), Reps K lo hi w xs cs → Reps K lo hi w (xs.take m) (cs.take (m * K.sz))
  | [], cs, m, h => by rw [show cs = [] from h]; simp; exact rfl
  | x :: xs, cs, 0, _ => by simp; exact rfl
  | x :: xs, cs, m + 1, ⟨a, b, e, h1, h2⟩ => by
    have hl := K.len h1
    refine ⟨a, b.take (m * K.sz), ?_, h1, Reps.take m h2⟩
    rw [e, List.take_append, List.take_of_length_le (by rw [hl, Nat.add_mul]; omega), hl, Nat.add_mul, show m * K.sz + 1 * K.sz - K.sz = m * K.sz by omega]
theorem Reps.splice {x x' : α} {i : Nat} {vs : List Value} (hR : ∀ a, K.R lo hi w x a → K.R lo hi w x' (a.take i ++ vs ++ a.drop (i + vs.length))) (hi' : i + vs.length ≤ K.sz) : ∀ {xs : List α} {cs : List Value} (j : Nat), xs[j]? = some x → Reps K lo hi w xs cs → Reps K lo hi w (xs.set j x') (cs.take (j * K.sz + i) ++ vs ++ cs.drop (j * K.sz + i + vs.length))
  | [], cs, j, hx, _ => by simp at hx
  | y :: xs, cs, 0, hx, ⟨a, b, e, h1, h2⟩ => by
    simp at hx; subst hx
    have hl := K.len h1
    refine ⟨a.take i ++ vs ++ a.drop (i + vs.length), b, ?_, hR a h1, h2⟩
    rw [e, Nat.zero_mul, Nat.zero_add, List.take_append_of_le_length (by omega), List.drop_append_of_le_length (by omega)]
    simp
  | y :: xs, cs, j + 1, hx, ⟨a, b, e, h1, h2⟩ => by
    simp at hx
    have hl := K.len h1
    refine ⟨a, b.take (j * K.sz + i) ++ vs ++ b.drop (j * K.sz + i + vs.length), ?_, h1, Reps.splice hR hi' j hx h2⟩
    rw [e, Nat.add_mul, Nat.one_mul, List.take_append, List.drop_append, List.take_of_length_le (by omega), List.drop_of_length_le (by omega), hl]
    rw [show j * K.sz + K.sz + i - K.sz = j * K.sz + i by omega, show j * K.sz + K.sz + i + vs.length - K.sz = j * K.sz + i + vs.length by omega]
    simp
end
section
variable {α : Type} {K : Kd α} {e : TypeId} {S : Nat → Prop} {lo hi : Nat} {w : World} {xs : List α}
theorem Own.take {b : Option Nat} {A : Option Addr} {n c : Nat} (h : Own K e b lo hi w (.slice A n c) xs) (m : Nat) (hm : m ≤ n) : Own K e b lo hi w (.slice A m c) (xs.take m) := by
  obtain ⟨⟨cs, hr, ho⟩, hb⟩ := h
  refine ⟨⟨cs.take (m * K.sz), hr.take m, ?_⟩, by rw [← hb]; cases A <;> rfl⟩
  have hl := ho.1
  rcases ho.2 with ⟨h0, h1⟩ | ⟨g, cap, cur, he, hg, hh, hnc, hcm, hcs, htk⟩
  · cases h0
    have : m = 0 := by omega
    subst this
    refine ⟨by simp, .inl ⟨rfl, by simp⟩⟩
  · injection he with e1 e2 e3
    subst e1 e3
    have hlx : (xs.take m).length = m := by rw [List.length_take]; omega
    have hms : m * K.sz ≤ n * K.sz := Nat.mul_le_mul_right _ hm
    refine ⟨by rw [List.length_take, hlx, hl, ← e2]; omega, .inr ⟨g, c, cur, by rw [hlx], hg, hh, by rw [hlx]; omega, hcm, hcs, ?_⟩⟩
    rw [hlx, ← htk, List.take_take, ← e2, Nat.min_eq_left hms]
theorem Mine.take {A : Option Addr} {n c : Nat} (h : Mine K e S lo hi w (.slice A n c) xs) (m : Nat) (hm : m ≤ n) : Mine K e S lo hi w (.slice A m c) (xs.take m) := let ⟨b, h, hb⟩ := h; ⟨b, h.take m hm, hb⟩
theorem Mine.len {A : Option Addr} {n c : Nat} (h : Mine K e S lo hi w (.slice A n c) xs) : xs.length = n := by
  obtain ⟨A', c', e, _⟩ := h.slice
  injection e with _ h2 _
  exact h2.symm
end
section
variable {P : Program} {ρ : Operand → Value} {w : World} {dst : Option Tmp} {ty : TypeId} {pos : String} {aft : Array Edge} {g : Option (Nat × Bool)}
/-- Some cells of an element are stored into a row of the call's own. -/
theorem storeMF {α : Type} {K : Kd α} (hF : Flat K) {T e : TypeId} {S : Nat → Prop} {a x : Operand} {A : Option Addr} {n c j i : Nat} {xs : List α} {y y' : α} {v : Value} {vs : List Value} (hs : ∀ w, (sizeOf T).run P w = .ok vs.length w) (hM : Mine K e S 0 0 w (.slice A n c) xs) (hy : xs[j]? = some y)
    (ha : ρ a = .pointer (some (((A.getD default).add (j * K.sz)).add i))) (hx : ρ x = v) (hvc : v.cells = vs.toArray) (h1 : ∀ u, u ∈ vs → u.oneCell' = true) (hi : i + vs.length ≤ K.sz) (hR : ∀ a, K.R 0 0 w y a → K.R 0 0 w y' (a.take i ++ vs ++ a.drop (i + vs.length))) :
    DoesE P ⟨none, .store T a x, ty, pos, aft, g⟩ ρ w fun _ w' => Mine K e S 0 0 w' (.slice A n c) (xs.set j y') ∧ Ext S w w' ∧ w'.heap.size = w.heap.size := by
  obtain ⟨b, ⟨⟨cs, hr, hrow⟩, hbb⟩, hb⟩ := hM
  have hl : cs.length = xs.length * K.sz := hrow.1
  have hj : j < xs.length := (List.getElem?_eq_some_iff.1 hy).1
  rcases hrow.2 with ⟨_, hn⟩ | ⟨g', cap, cur, he, hbg, hg, hnc, hcm, hcs, htake⟩
  · omega
  · injection he with e1 e2 e3
    subst e1
    have hjs : j * K.sz + K.sz ≤ xs.length * K.sz := by
      have := Nat.mul_le_mul_right K.sz (show j + 1 ≤ xs.length from hj)
      rw [Nat.add_mul, Nat.one_mul] at this; exact this
    have hxs : xs.length * K.sz ≤ cap * K.sz := Nat.mul_le_mul_right _ hnc
    have hcs : cur.size = cap * K.sz := hcs
    have hsg : Blk w g' cur.toList e := by unfold Blk; simpa using hg
    rw [add_add, show (Option.getD (some (⟨g', 0, none⟩ : Addr)) default).add (j * K.sz + i) = ⟨g', j * K.sz + i, none⟩ by show (⟨g', 0, none⟩ : Addr).add _ = _; rw [add_mk, Nat.zero_add]] at ha
    have hst := run_storeCells_at P g' (j * K.sz + i) e vs 0 cur w hg (by simp; omega) h1
    simp only [Nat.add_zero] at hst
    have hSg : S g' := hb g' (by rw [← hbb]; rfl)
    have hnew : (cur.toList.take (j * K.sz + i) ++ vs ++ cur.toList.drop (j * K.sz + i + vs.length)).length = cap * K.sz := by
      have : cur.toList.length = cap * K.sz := by simpa using hcs
      simp only [List.length_append, List.length_take, List.length_drop, this]; omega
    have hB' : (w.setRow g' (cur.toList.take (j * K.sz + i) ++ vs ++ cur.toList.drop (j * K.sz + i + vs.length)).toArray).heap[g']? = some (.cells (cur.toList.take (j * K.sz + i) ++ vs ++ cur.toList.drop (j * K.sz + i + vs.length)).toArray e (0, 0)) := by
      simp only [World.setRow, Array.getElem?_modify, if_true, hg, Option.map_some]
    have hext : Ext (fun k => k = g') w (w.setRow g' (cur.toList.take (j * K.sz + i) ++ vs ++ cur.toList.drop (j * K.sz + i + vs.length)).toArray) := ⟨rfl, rfl, rfl, by simp [World.setRow], fun k _ hk => by simp only [World.setRow, Array.getElem?_modify]; rw [if_neg (fun h => hk h.symm)]⟩
    refine (does_skip (w' := w.setRow g' (cur.toList.take (j * K.sz + i) ++ vs ++ cur.toList.drop (j * K.sz + i + vs.length)).toArray) rfl ?_).e ⟨⟨some g', ⟨⟨cs.take (j * K.sz + i) ++ vs ++ cs.drop (j * K.sz + i + vs.length), (Reps.splice (w := w) hR hi j hy (hr.flat hF)).flat hF, ?_⟩, rfl⟩, fun k hk => by cases hk; exact hSg⟩, hext.mono (fun k _ hk => by rw [show k = g' from hk]; exact hSg), by simp [World.setRow]⟩
    · simp only [execOp, ha, hx, Instr.storeAt, Instr.sureAddr, storeVar, hvc]
      simp [hs, hst]
    · have hlx : (xs.set j y').length = xs.length := List.length_set
      refine ⟨?_, .inr ⟨g', cap, _, by rw [hlx, e2, e3], hbg, hB', by rw [hlx]; exact hnc, hcm, by simpa using hnew, ?_⟩⟩
      · rw [hlx]; simp only [List.length_append, List.length_take, List.length_drop, hl]; omega
      · rw [hlx]
        have ht : cs = cur.toList.take (xs.length * K.sz) := htake.symm
        have hcl : cur.toList.length = cap * K.sz := by simpa using hcs
        rw [ht]
        apply List.ext_getElem?
        intro k
        simp only [List.getElem?_take, List.getElem?_append, List.length_append, List.length_take, List.getElem?_drop, hcl]
        rw [Nat.min_eq_left (show j * K.sz + i ≤ cap * K.sz by omega), Nat.min_eq_left (show xs.length * K.sz ≤ cap * K.sz by omega), Nat.min_eq_left (show j * K.sz + i ≤ xs.length * K.sz by omega)]
        by_cases q1 : k < j * K.sz + i
        · have : k < xs.length * K.sz := by omega
          simp [q1, this, show k < j * K.sz + i + vs.length by omega]
        · by_cases q2 : k < j * K.sz + i + vs.length
          · have : k < xs.length * K.sz := by omega
            simp [q1, q2, this]
          · by_cases q3 : k < xs.length * K.sz
            · have : j * K.sz + i + vs.length + (k - (j * K.sz + i + vs.length)) = k := by omega
              simp [q1, q2, q3, this]
            · have : j * K.sz + i + vs.length + (k - (j * K.sz + i + vs.length)) = k := by omega
              simp [q1, q2, q3, this]
/-- A whole element is stored. -/
theorem storeME {α : Type} {K : Kd α} (hF : Flat K) {T e : TypeId} {S : Nat → Prop} {a x : Operand} {A : Option Addr} {n c j : Nat} {xs : List α} {y' : α} {v : Value} {vs : List Value} (hs : ∀ w, (sizeOf T).run P w = .ok vs.length w) (hM : Mine K e S 0 0 w (.slice A n c) xs) (hj : j < xs.length)
    (ha : ρ a = .pointer (some ((A.getD default).add (j * K.sz)))) (hx : ρ x = v) (hvc : v.cells = vs.toArray) (h1 : ∀ u, u ∈ vs → u.oneCell' = true) (hn : vs.length = K.sz) (hR : K.R 0 0 w y' vs) :
    DoesE P ⟨none, .store T a x, ty, pos, aft, g⟩ ρ w fun _ w' => Mine K e S 0 0 w' (.slice A n c) (xs.set j y') ∧ Ext S w w' ∧ w'.heap.size = w.heap.size := by
  obtain ⟨y, hy⟩ : ∃ y, xs[j]? = some y := ⟨_, List.getElem?_eq_getElem hj⟩
  refine storeMF (i := 0) hF hs hM hy (by rw [ha, add_zero]) hx hvc h1 (by omega) (fun a h => ?_)
  have := K.len h
  rw [List.take_zero, List.nil_append, List.drop_of_length_le (by omega), List.append_nil]; exact hR
end
end Go.Proofs.Ytgfficbkajcdpaa.X
