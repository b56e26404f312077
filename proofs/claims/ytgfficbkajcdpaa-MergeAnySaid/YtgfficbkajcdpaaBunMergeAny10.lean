/- Texts that the proof of MergeAny stands on, part 10. -/
import Derived.Deep.Slices
import Derived.Deep.Strs
import Derived.ProofKit
import Derived.OpenShut
import Derived.ShutString
import Derived.ChangeOld
import Derived.SizedLaws
import Derived.KernelRfl
import Derived.Test.YtgfficbkajcdpaaProg
import Derived.Test.YtgfficbkajcdpaaBunMergeAny9

namespace Go.Proofs.Ytgfficbkajcdpaa.X
open Go

/-- Type t is read as data of the kind K. -/
def Opens {H : Type} (enc : TypeId × Value → H) (P : Program) (W : World) {α : Type} (t : TypeId) (K : Kd α) : Prop :=
  ∀ fuel cs x, DataW.trod enc P W 0 (fun _ => true) true fuel t cs = some x → ∃ y, K.R 0 W.heap.size W y cs

def KN (k : IntKind) : Kd Int := Kd.plain 1 (fun n => [.int k n]) (fun n => (Lit.int k n).wf = true) (fun _ => rfl) (fun _ u hu => by simp at hu; subst hu; rfl)
def KS : Kd ByteArray := Kd.plain 1 (fun s => [.string s]) (fun s => s.size ≤ 9223372036854775807) (fun _ => rfl) (fun _ u hu => by simp at hu; subst hu; rfl)
def KBo : Kd Bool := Kd.plain 1 (fun s => [.bool s]) (fun _ => True) (fun _ => rfl) (fun _ u hu => by simp at hu; subst hu; rfl)
theorem KN_flat (k : IntKind) : Flat (KN k) := fun h => h
theorem KS_flat : Flat KS := fun h => h
theorem KBo_flat : Flat KBo := fun h => h

section
variable {H : Type} {enc : TypeId × Value → H} {P : Program} {W : World}
theorem opens_int {t : TypeId} {k : IntKind} (ht : P.underlying t = some (.int k)) : Opens enc P W t (KN k) := fun fuel cs x h => by
  obtain ⟨n, rfl, _, hw⟩ := DataW.trod_int ht h
  exact ⟨n, rfl, hw⟩
theorem opens_u8 {t : TypeId} (ht : P.underlying t = some (.int .u8)) : Opens enc P W t KB := fun fuel cs x h => by
  obtain ⟨n, rfl, _, hw⟩ := DataW.trod_int ht h
  simp only [Lit.wf, Bool.and_eq_true, decide_eq_true_eq] at hw
  have h0 : IntKind.u8.min = 0 := rfl
  have h1 : IntKind.u8.max = 255 := rfl
  refine ⟨UInt8.ofNat n.toNat, ?_, trivial⟩
  have : ((UInt8.ofNat n.toNat).toNat : Int) = n := by
    rw [UInt8.toNat_ofNat']
    omega
  show [Value.int IntKind.u8 n] = [Value.int IntKind.u8 ((UInt8.ofNat n.toNat).toNat : Int)]
  rw [this]
theorem opens_i64 {t : TypeId} (ht : P.underlying t = some (.int .i64)) : Opens enc P W t KI := fun fuel cs x h => by
  obtain ⟨n, rfl, _, hw⟩ := DataW.trod_int ht h
  simp only [Lit.wf, Bool.and_eq_true, decide_eq_true_eq] at hw
  have h0 : IntKind.i64.min = -9223372036854775808 := rfl
  have h1 : IntKind.i64.max = 9223372036854775807 := rfl
  exact ⟨n, rfl, by omega⟩
theorem opens_string {t : TypeId} (ht : P.underlying t = some .string) : Opens enc P W t KS := fun fuel cs x h => by
  obtain ⟨s, rfl, _, hw⟩ := DataW.trod_string ht h
  exact ⟨s, rfl, by simpa [maxLen] using hw⟩
theorem opens_bool {t : TypeId} (ht : P.underlying t = some .bool) : Opens enc P W t KBo := fun fuel cs x h => by
  obtain ⟨s, rfl, _⟩ := DataW.trod_bool ht h
  exact ⟨s, rfl, trivial⟩
theorem opens_slice {t e : TypeId} {α : Type} {K : Kd α} (ht : P.underlying t = some (.slice e)) (he : P.cellsOf e = K.sz) (h0 : 0 < K.sz) (hK : Opens enc P W e K) : Opens enc P W t (Kd.slice K) := fun fuel cs x h => by
  rcases Go.Deep.open_slice ht h with ⟨rfl, _⟩ | ⟨a, len, cap, m, n, D, Pl, rfl, _, hl, hm, hmm, _, hq⟩
  · exact ⟨[], none, 0, 0, rfl, Nat.le_refl _, Sl.nil K _ _ _ _⟩
  · simp only [if_true] at hmm
    subst hmm
    have key : ∀ i, i < len → ∃ y cs', K.R 0 W.heap.size W y cs' ∧ W.cells? 0 (a.add (i * K.sz)) K.sz = some cs' := fun i hi => by
      obtain ⟨cs', h1, h2⟩ := hq i (by omega)
      obtain ⟨y, hy⟩ := hK _ _ _ h2
      rw [he] at h1
      exact ⟨y, cs', hy, h1⟩
    have hlist : ∀ q, q ≤ len → ∃ ys : List α, ys.length = q ∧ ∀ j y, ys[j]? = some y → ∃ cs', K.R 0 W.heap.size W y cs' ∧ W.cells? 0 (a.add (j * K.sz)) K.sz = some cs' := by
      intro q
      induction q with
      | zero => intro _; exact ⟨[], rfl, fun j y hy => by simp at hy⟩
      | succ q ih =>
        intro hq'
        obtain ⟨ys, hy1, hy2⟩ := ih (by omega)
        obtain ⟨y, cs', h1, h2⟩ := key q (by omega)
        refine ⟨ys ++ [y], by simp [hy1], fun j z hz => ?_⟩
        rcases Nat.lt_or_ge j ys.length with hj | hj
        · rw [List.getElem?_append_left hj] at hz
          exact hy2 j z hz
        · rw [List.getElem?_append_right hj] at hz
          have : j - ys.length = 0 := by
            have := (List.getElem?_eq_some_iff.1 hz).1
            simpa using this
          rw [this] at hz
          simp at hz
          subst hz
          have : j = q := by omega
          subst this
          exact ⟨cs', h1, h2⟩
    obtain ⟨ys, hy1, hy2⟩ := hlist len (Nat.le_refl _)
    have hb : len ≤ 9223372036854775807 := by simp only [maxLen] at hm; omega
    refine ⟨ys, some a, len, _, rfl, hl, hy1, hb, fun hn => ⟨a, rfl, Nat.zero_le _, ?_, fun j y hy => ?_⟩⟩
    · obtain ⟨_, cs', _, h2⟩ := key 0 hn
      have := World.cells?_block h2 h0
      rwa [add_block] at this
    · obtain ⟨cs', h1, h2⟩ := hy2 j y hy
      refine ⟨cs', h1, fun i u hu => ?_⟩
      obtain ⟨_, h3, h4⟩ := World.cells?_some h2
      have := h4 i (by rw [← h3]; exact (List.getElem?_eq_some_iff.1 hu).1)
      rw [add_add] at this
      rw [this, hu]
/-- A struct of two fields, of three. -/
theorem opens_struct2 {t : TypeId} {f0 f1 : Field} {α β : Type} {K : Kd α} {L : Kd β} (ht : P.underlying t = some (.struct #[f0, f1])) (hc : P.cellsOf t = K.sz + L.sz) (h0 : f0.offset = 0 ∧ P.cellsOf f0.type = K.sz) (h1 : f1.offset = K.sz ∧ P.cellsOf f1.type = L.sz)
    (hK : Opens enc P W f0.type K) (hL : Opens enc P W f1.type L) : Opens enc P W t (Kd.pair K L) := fun fuel cs x h => by
  obtain ⟨y0, y1, n, _, hl, h2, h3⟩ := Go.ChangeShapes.trod_struct2 ht h
  obtain ⟨a, ha⟩ := hK _ _ _ h2
  obtain ⟨b, hb⟩ := hL _ _ _ h3
  refine ⟨(a, b), _, _, ?_, ha, hb⟩
  rw [h0.1, h0.2, h1.1, h1.2, List.drop_zero]
  rw [hc] at hl
  rw [List.take_of_length_le (l := cs.drop K.sz) (by simp; omega), List.take_append_drop]
theorem opens_struct3 {t : TypeId} {f0 f1 f2 : Field} {α β γ : Type} {K : Kd α} {L : Kd β} {M : Kd γ} (ht : P.underlying t = some (.struct #[f0, f1, f2])) (hc : P.cellsOf t = K.sz + (L.sz + M.sz)) (h0 : f0.offset = 0 ∧ P.cellsOf f0.type = K.sz) (h1 : f1.offset = K.sz ∧ P.cellsOf f1.type = L.sz) (h2 : f2.offset = K.sz + L.sz ∧ P.cellsOf f2.type = M.sz)
    (hK : Opens enc P W f0.type K) (hL : Opens enc P W f1.type L) (hM : Opens enc P W f2.type M) : Opens enc P W t (Kd.pair K (Kd.pair L M)) := fun fuel cs x h => by
  obtain ⟨y0, y1, y2, n, _, hl, h3, h4, h5⟩ := Go.Deep.trod_struct3 ht h
  obtain ⟨a, ha⟩ := hK _ _ _ h3
  obtain ⟨b, hb⟩ := hL _ _ _ h4
  obtain ⟨c, hcc⟩ := hM _ _ _ h5
  refine ⟨(a, b, c), _, _, ?_, ha, _, _, rfl, hb, hcc⟩
  rw [h0.1, h0.2, h1.1, h1.2, h2.1, h2.2, List.drop_zero]
  rw [hc] at hl
  rw [List.take_of_length_le (l := cs.drop (K.sz + L.sz)) (by simp; omega), ← List.drop_drop, List.take_append_drop, List.take_append_drop]
end
end Go.Proofs.Ytgfficbkajcdpaa.X

namespace Go.Proofs.Ytgfficbkajcdpaa
open Go Go.Proofs.Ytgfficbkajcdpaa.X
set_option linter.unusedVariables false
set_option linter.unusedSimpArgs false
theorem rest_b {B : Nat} {T : Nat → Prop} {p : Value} {xs : List TH} (w : World) (h : Cur Try.prog evT (0, 0) NX B T p xs w) (hB : B ≤ w.heap.size) (hTb : ∀ k, T k → k < w.heap.size) (hxl : xs.length < 2000) : Ret Try.prog 15 #[.iface 84 p] w fun r w' => ∃ v, r = .tuple #[v, .bool true] ∧ Mine KTh 29 (fun k => w.heap.size ≤ k ∧ k < w'.heap.size) 0 0 w' v xs ∧ Ext T w w' :=
  (rest_c w h hB hTb hxl).mono fun r w' ⟨v, h1, h2, h3⟩ => ⟨v, h1, h2.mono fun k hk hs => ⟨hs, hk⟩, h3⟩
theorem heldL_len (t : Bool) : ∀ xs ys, (heldL t xs ys).length ≤ xs.length
  | [], _ => Nat.le_refl _
  | x :: xs, ys => by
    have := heldL_len t xs (skipT x ys)
    rw [heldL]; split
    · simp; omega
    · simp; omega
theorem sl_things {lo hi : Nat} {w : World} {A : Option Addr} {n : Nat} {l : List TH} (h : Sl (Kd.pair (KN .i8) KI) lo hi w A n l) : Sl KTh lo hi w A n l := by
  refine ⟨h.len, h.bound, fun hn => ?_⟩
  obtain ⟨ad, e, h1, h2, hc⟩ := h.at_ hn
  refine ⟨ad, e, h1, h2, fun j x hx => ?_⟩
  obtain ⟨cs, ⟨a, b, rfl, ⟨rfl, _⟩, ⟨rfl, _⟩⟩, hq⟩ := hc j x hx
  exact ⟨_, ⟨rfl, trivial⟩, hq⟩
theorem take_lt (l : List TH) : (l.take 30).length < 2000 := by rw [List.length_take]; omega
-- f6 "pedigree/pedigreelaw09.MergeHolds" params [24, 24] results [4] -> [(ResultVar.tmp 4)] nfree 0 ntmps 52 
set_option maxHeartbeats 4000000 in
set_option maxRecDepth 100000 in
theorem MergeHolds_c (w : World) (A1 : Option Addr) (n1 c1 : Nat) (l1 : List TH) (hc1 : n1 ≤ c1) (s1 : Sl (Kd.pair (KN .i8) KI) 0 w.heap.size w A1 n1 l1) (A2 : Option Addr) (n2 c2 : Nat) (l2 : List TH) (hc2 : n2 ≤ c2) (s2 : Sl (Kd.pair (KN .i8) KI) 0 w.heap.size w A2 n2 l2) :
    Ret Try.prog 6 #[.slice A1 n1 c1, .slice A2 n2 c2] w fun r w' => r = .bool true ∧ Keep w w' := by
  have hs1 := sl_things s1
  have hs2 := sl_things s2
  refine X.enter Try.func6 rfl Try.ntmps6 rfl ?_
  refine X.seq ?_
  refine X.region ?_
  refine X.opw X.wN rfl (X.assign rfl) ?_
  refine X.opsEnd ?_
  refine X.seq ?_
  refine X.region ?_
  refine X.opw X.wN rfl (X.move (v := .slice _ _ _) rfl) ?_
  refine X.opE X.wN rfl (X.callE (short_c _ hs1 (by omega)) Try.call19 rfl rfl) ?_
  rintro _ w1 ⟨m1, rfl, hmc1, hm31, hs1, hk1⟩
  have hk1' := hk1.size
  refine X.opw X.wN rfl (X.move (v := .slice _ _ _) rfl) ?_
  refine X.opE X.wN rfl (X.callE (short_c _ (hs2.keep hk1) (by omega)) Try.call19 rfl rfl) ?_
  rintro _ w2 ⟨m2, rfl, hmc2, hm32, hs2, hk2⟩
  have hk2' := hk2.size
  refine X.opw X.wN rfl (X.assign (v := .slice _ _ _) rfl) ?_
  refine X.opw X.wN rfl (X.assign (v := .slice _ _ _) rfl) ?_
  refine X.opsEnd ?_
  refine X.seq ?_
  refine X.region ?_
  refine X.opw X.wN rfl (X.move (v := .slice _ _ _) rfl) ?_
  refine X.opE X.wN rfl (X.callE (Of_c w.heap.size _ (hs1.keep hk2) (by omega) (by omega)) Try.call20 rfl rfl) ?_
  rintro _ w3 ⟨bm3, rfl, hC3, hk3⟩
  have hk3' := hk3.size
  refine X.opw X.wN rfl (X.move (v := .slice _ _ _) rfl) ?_
  refine X.opE X.wN rfl (X.callE (Of_c w.heap.size _ (hs2.keep hk3) (by omega) (by omega)) Try.call20 rfl rfl) ?_
  rintro _ w4 ⟨bm4, rfl, hC4, hk4⟩
  have hk4' := hk4.size
  refine X.opE X.wN rfl (X.callE (Both_c _ (hC3.keep hk4) hC4 (by omega) (by omega) (by omega) (by omega) (by omega) cmpOk17) Try.call28 rfl rfl) ?_
  rintro _ w5 ⟨⟨p5, rfl⟩, hC5, hk5⟩
  have hk5' := hk5.size
  refine X.opE X.wN rfl (X.callE (rest_b _ (CV.cur hC5) (by omega) (fun k hk => by (try simp only [] at *); omega) (Nat.lt_of_le_of_lt (heldL_len _ _ _) (take_lt _))) Try.call15 rfl rfl) ?_
  rintro _ w6 ⟨v6, rfl, hM6, hx6⟩
  have hx6' := hx6.size
  refine X.opw X.wN rfl (X.move rfl) ?_
  refine X.opw X.wN rfl (X.extr rfl rfl) ?_
  refine X.opw X.wN rfl (X.extr rfl rfl) ?_
  refine X.opw X.wN rfl (X.assign rfl) ?_
  refine X.opw X.wN rfl (X.assign (v := .bool _) rfl) ?_
  refine X.opsEnd ?_
  refine X.seq ?_
  refine X.region ?_
  refine X.opw X.wN rfl (X.move (v := .slice _ _ _) rfl) ?_
  refine X.opE X.wN rfl (X.callE (Of_c w.heap.size _ ((hs1.keep (((hk2.trans hk3).trans hk4).trans hk5)).ext hx6 (by intros; (try simp only []); omega)) (by omega) (by omega)) Try.call20 rfl rfl) ?_
  rintro _ w7 ⟨bm7, rfl, hC7, hk7⟩
  have hk7' := hk7.size
  refine X.opw X.wN rfl (X.move (v := .slice _ _ _) rfl) ?_
  refine X.opE X.wN rfl (X.callE (Of_c w.heap.size _ (((hs2.keep ((hk3.trans hk4).trans hk5)).ext hx6 (by intros; (try simp only []); omega)).keep hk7) (by omega) (by omega)) Try.call20 rfl rfl) ?_
  rintro _ w8 ⟨bm8, rfl, hC8, hk8⟩
  have hk8' := hk8.size
  refine X.opE X.wN rfl (X.callE (Less_c _ (hC7.keep hk8) hC8 (by omega) (by omega) (by omega) (by omega) (by omega) cmpOk17) Try.call29 rfl rfl) ?_
  rintro _ w9 ⟨⟨p9, rfl⟩, hC9, hk9⟩
  have hk9' := hk9.size
  refine X.opE X.wN rfl (X.callE (rest_b _ (CV.cur hC9) (by omega) (fun k hk => by (try simp only [] at *); omega) (Nat.lt_of_le_of_lt (heldL_len _ _ _) (take_lt _))) Try.call15 rfl rfl) ?_
  rintro _ w10 ⟨v10, rfl, hM10, hx10⟩
  have hx10' := hx10.size
  refine X.opw X.wN rfl (X.move rfl) ?_
  refine X.opw X.wN rfl (X.extr rfl rfl) ?_
  refine X.opw X.wN rfl (X.extr rfl rfl) ?_
  refine X.opw X.wN rfl (X.assign rfl) ?_
  refine X.opw X.wN rfl (X.assign (v := .bool _) rfl) ?_
  refine X.opsEnd ?_
  refine X.seq ?_
  refine X.region ?_
  refine X.opw X.wN rfl (X.move (v := .bool true) rfl) ?_
  refine X.opw X.wN rfl (X.move (v := .bool true) rfl) ?_
  refine X.opw (X.wG rfl rfl rfl) rfl (X.move (v := .bool true) rfl) ?_
  refine X.opw X.wN rfl (X.pickT (v := .bool true) rfl rfl) ?_
  refine X.opw X.wN rfl (X.move (v := .bool true) rfl) ?_
  refine X.opw (X.wG rfl rfl rfl) rfl (X.move rfl) ?_
  refine X.opw (X.wG rfl rfl rfl) rfl (X.move (v := .slice _ _ _) rfl) ?_
  refine X.opw (X.wG rfl rfl rfl) rfl (X.move (v := .slice _ _ _) rfl) ?_
  refine X.opE (X.wG rfl rfl rfl) rfl (X.callE ((RHeld_c true _ ((((hs1.keep (((hk2.trans hk3).trans hk4).trans hk5)).ext hx6 (by intros; (try simp only []); omega)).keep ((hk7.trans hk8).trans hk9)).ext hx10 (by intros; (try simp only []); omega)) ((((hs2.keep ((hk3.trans hk4).trans hk5)).ext hx6 (by intros; (try simp only []); omega)).keep ((hk7.trans hk8).trans hk9)).ext hx10 (by intros; (try simp only []); omega)) (by omega)).mono fun _ _ h => fresh_t h) Try.call30 rfl rfl) ?_
  rintro _ w11 ⟨A11, c11, rfl, hc11, hs11, hk11⟩
  have hk11' := hk11.size
  have q13 := (((hM6.keep ((hk7.trans hk8).trans hk9)).ext hx10 (by intros; (try simp only []); omega) (by intros; (try simp only []); omega)).keep hk11).slF KTh_flat 0 (fun _ _ => Nat.zero_le _)
  obtain ⟨A13, c13, rfl, hc13, hs13⟩ := q13
  refine X.opE (X.wG rfl rfl rfl) rfl (X.callE (Same_c _ hs13 hs11) Try.call22 rfl rfl) ?_
  rintro _ w12 ⟨rfl, hk12⟩
  have hk12' := hk12.size
  refine X.opw X.wN rfl (X.pickT (v := .bool _) rfl rfl) ?_
  refine X.opw X.wN rfl (X.move (v := .bool _) rfl) ?_
  refine X.forkO 42 rfl (fun h42 => ?_) (fun h42 => ?_)
  · refine X.opw (X.wG rfl rfl rfl) rfl (X.move rfl) ?_
    refine X.opw (X.wG rfl rfl rfl) rfl (X.move (v := .slice _ _ _) rfl) ?_
    refine X.opw (X.wG rfl rfl rfl) rfl (X.move (v := .slice _ _ _) rfl) ?_
    refine X.opE (X.wG rfl rfl rfl) rfl (X.callE ((RHeld_c false _ (((((hs1.keep (((hk2.trans hk3).trans hk4).trans hk5)).ext hx6 (by intros; (try simp only []); omega)).keep ((hk7.trans hk8).trans hk9)).ext hx10 (by intros; (try simp only []); omega)).keep (hk11.trans hk12)) (((((hs2.keep ((hk3.trans hk4).trans hk5)).ext hx6 (by intros; (try simp only []); omega)).keep ((hk7.trans hk8).trans hk9)).ext hx10 (by intros; (try simp only []); omega)).keep (hk11.trans hk12)) (by omega)).mono fun _ _ h => fresh_t h) Try.call30 rfl rfl) ?_
    rintro _ w14 ⟨A14, c14, rfl, hc14, hs14, hk14⟩
    have hk14' := hk14.size
    have q16 := (hM10.keep ((hk11.trans hk12).trans hk14)).slF KTh_flat 0 (fun _ _ => Nat.zero_le _)
    obtain ⟨A16, c16, rfl, hc16, hs16⟩ := q16
    refine X.opE (X.wG rfl rfl rfl) rfl (X.callE (Same_c _ hs16 hs14) Try.call22 rfl rfl) ?_
    rintro _ w15 ⟨rfl, hk15⟩
    have hk15' := hk15.size
    refine X.opw X.wN rfl (X.pickT (v := .bool _) rfl rfl) ?_
    refine X.opw X.wN rfl (X.move (v := .bool _) rfl) ?_
    refine X.forkO 49 rfl (fun h49 => ?_) (fun h49 => ?_)
    · refine X.opE (X.wG rfl rfl rfl) rfl (X.callE (alive_c _) Try.call14 rfl rfl) ?_
      rintro _ w17 ⟨rfl, hk17⟩
      have hk17' := hk17.size
      refine X.opw X.wN rfl (X.pickT (v := .bool _) rfl rfl) ?_
      refine X.opw X.wN rfl (X.assign (v := .bool _) rfl) ?_
      refine X.opsEnd ?_
      refine X.ret1 (v := (.bool _)) Try.func6 Try.results6 rfl ?_
      exact ⟨rfl, ((((((((((((((hk1.trans hk2).trans hk3).trans hk4).trans hk5).step hx6 (by intros; (try simp only [] at *); omega)).trans hk7).trans hk8).trans hk9).step hx10 (by intros; (try simp only [] at *); omega)).trans hk11).trans hk12).trans hk14).trans hk15).trans hk17)⟩
    · simp at h49
  · simp at h42
end Go.Proofs.Ytgfficbkajcdpaa

namespace Go.Proofs.Ytgfficbkajcdpaa
open Go Go.Proofs.Ytgfficbkajcdpaa.X
set_option linter.unusedVariables false
set_option linter.unusedSimpArgs false
-- f52 "pedigree/merge.All[pedigree/pedigreeref09.Thing]$1" params [46] results [] -> [] nfree 1 ntmps 20 name
set_option maxHeartbeats 4000000 in
set_option maxRecDepth 100000 in
theorem all1_c (yv p : Value) (bl B : Nat) (Tc U : Nat → Prop) (J D : List TH → World → Prop) {xs : List TH} (w : World) (hB : Blk w bl [.iface 84 p] 33) (hC : Cur Try.prog evT (0, 0) NX B Tc p xs w) (hBw : B ≤ w.heap.size) (hTb : ∀ k, Tc k → k < w.heap.size) (hTbl : ¬ Tc bl) (hUbl : ¬ U bl) (hUc : ∀ k, U k → B ≤ k ∧ ¬ Tc k) (hJ0 : J xs w)
    (hJ : ∀ l w1 w2, J l w1 → Ext Tc w1 w2 → J l w2) (hy : ∀ y ys w2, J (y :: ys) w2 → YC Try.prog yv [evT y] w2 fun v w3 => ∃ b, v = .bool b ∧ Ext U w2 w3 ∧ (b = true → J ys w3) ∧ (b = false → D ys w3)) :
    Ret Try.prog 52 #[yv, .pointer (some ⟨bl, 0, none⟩)] w fun v w' => v = .tuple #[] ∧ (∃ ys, Cur Try.prog evT (0, 0) NX B Tc p ys w' ∧ ((ys = [] ∧ J [] w') ∨ D ys w')) ∧ Ext (fun k => Tc k ∨ U k) w w' := by
  have hbll := hB.lt
  refine X.enter Try.func52 rfl Try.ntmps52 rfl ?_
  refine X.block ?_
  -- LOOP live: 0=yield, 1
  refine X.loopL (σ := List TH) (fun s => [(0, yv), (1, .pointer (some ⟨bl, 0, none⟩))]) (fun s w' => Blk w' bl [.iface 84 p] 33 ∧ Cur Try.prog evT (0, 0) NX B Tc p s w' ∧ J s w' ∧ Ext (fun k => Tc k ∨ U k) w w' ∧ w.heap.size ≤ w'.heap.size) (fun s => s.length) xs ⟨rfl, rfl, trivial⟩ ⟨hB, hC, hJ0, Ext.refl _ _, Nat.le_refl _⟩ ?_
  rintro ys b0 wl ⟨hBl, hCl, hJl, hE, hwl⟩ hback
  refine X.seq ?_
  refine X.seq ?_
  refine X.region ?_
  refine X.opw X.wN rfl (X.load1B Try.isAgg33 hBl rfl rfl) ?_
  refine X.opw X.wN rfl (X.neIf1 Try.underlying33 rfl rfl) ?_
  refine X.opsEnd ?_
  refine X.condT rfl ?_
  refine X.skip ?_
  refine X.block ?_
  refine X.seq ?_
  refine X.region ?_
  refine X.opw X.wN rfl (X.load1B Try.isAgg33 hBl rfl rfl) ?_
  refine X.opE X.wN rfl (X.invokeE rfl (next_m _) hCl.next Try.call98) ?_
  rintro _ w1 ⟨rfl, hx1, hC1⟩
  have hx1' := hx1.size
  refine X.opw X.wN rfl (X.move rfl) ?_
  refine X.opw X.wN rfl (X.extr rfl rfl) ?_
  refine X.opw X.wN rfl (X.extr rfl rfl) ?_
  refine X.opE X.wN rfl (X.allocE Try.zeroValue29 rfl) ?_
  rintro _ w2 ⟨rfl, hB2, hk2, hz2⟩
  refine X.opE X.wN rfl (X.storeNE Try.sizeOf29 hB2 rfl rfl rfl rfl (fun u hu => by simp at hu; rcases hu with rfl | rfl <;> rfl)) ?_
  rintro _ w3 ⟨hB3, hx3, hz3⟩
  refine X.opw X.wN rfl (X.assign (v := .bool _) rfl) ?_
  refine X.opsEnd ?_
  refine X.seq ?_
  refine X.region ?_
  refine X.opw X.wN rfl (X.move (v := .bool _) rfl) ?_
  refine X.opw X.wN rfl (X.not_ rfl) ?_
  refine X.opw X.wN rfl (X.move (v := .bool _) rfl) ?_
  refine X.forkO 14 rfl (fun h14 => ?_) (fun h14 => ?_)
  · obtain rfl : ys = [] := by simpa using h14
    refine X.opS rfl rfl rfl rfl rfl ?_
    refine X.opS rfl rfl rfl rfl rfl ?_
    refine X.opS rfl rfl rfl rfl rfl ?_
    refine X.opS rfl rfl rfl rfl rfl ?_
    refine X.opw X.wN rfl (X.pickT (v := .bool true) rfl rfl) ?_
    refine X.opsEnd ?_
    refine X.condT rfl ?_
    refine X.ret0 Try.func52 Try.results52 ?_
    exact ⟨rfl, ⟨[], (hC1.keep (hk2.step hx3 (by intros; (try simp only [] at *); omega))), .inl ⟨rfl, hJ _ _ _ hJl (Ext.andThen (Ext.andThen (Ext.andThen (Ext.refl (fun k => Tc k) _) hx1 (by intro k h1 h2; first | exact h2 | exact (h2 : False).elim | (exfalso; (try simp only [] at *); omega))) hk2 (by intro k h1 h2; first | exact h2 | exact (h2 : False).elim | (exfalso; (try simp only [] at *); omega))) hx3 (by intro k h1 h2; first | exact h2 | exact (h2 : False).elim | (exfalso; (try simp only [] at *); omega)))⟩⟩, (Ext.andThen (Ext.andThen (Ext.andThen hE hx1 (by intro k h1 h2; first | exact h2 | exact .inl h2 | exact .inr h2 | exact (h2 : False).elim | (exfalso; (try simp only [] at *); omega))) hk2 (by intro k h1 h2; first | exact h2 | exact .inl h2 | exact .inr h2 | exact (h2 : False).elim | (exfalso; (try simp only [] at *); omega))) hx3 (by intro k h1 h2; first | exact h2 | exact .inl h2 | exact .inr h2 | exact (h2 : False).elim | (exfalso; (try simp only [] at *); omega)))⟩
  · obtain ⟨y, ys', rfl⟩ : ∃ y ys', ys = y :: ys' := by
      cases ys with
      | nil => simp at h14
      | cons y ys' => exact ⟨y, ys', rfl⟩
    refine X.opw (X.wG rfl rfl rfl) rfl (X.move rfl) ?_
    refine X.opw (X.wG rfl rfl rfl) rfl (X.loadNB Try.isAgg29 Try.sizeOf29 hB3 rfl rfl rfl) ?_
    refine X.opE (X.wG rfl rfl rfl) rfl ((hy y ys' _ (hJ _ _ _ hJl (Ext.andThen (Ext.andThen (Ext.andThen (Ext.refl (fun k => Tc k) _) hx1 (by intro k h1 h2; first | exact h2 | exact (h2 : False).elim | (exfalso; (try simp only [] at *); omega))) hk2 (by intro k h1 h2; first | exact h2 | exact (h2 : False).elim | (exfalso; (try simp only [] at *); omega))) hx3 (by intro k h1 h2; first | exact h2 | exact (h2 : False).elim | (exfalso; (try simp only [] at *); omega))))) _ _ _ _ _ _ _ _ _ rfl rfl) ?_
    rintro _ w4 ⟨bb, rfl, hx4, hyT, hyF⟩
    have hx4' := hx4.size
    refine X.opw (X.wG rfl rfl rfl) rfl (X.not_ rfl) ?_
    refine X.opw X.wN rfl (X.pickF (v := .bool _) rfl rfl) ?_
    refine X.opsEnd ?_
    refine X.condB rfl (fun hc => ?_) (fun hc => ?_)
    · have hbb : bb = false := by simpa using hc
      refine X.ret0 Try.func52 Try.results52 ?_
      exact ⟨rfl, ⟨ys', ((hC1.keep (hk2.step hx3 (by intros; (try simp only [] at *); omega))).ext hx4 (fun k _ h => hUc k h)), .inr (hyF hbb)⟩, (Ext.andThen (Ext.andThen (Ext.andThen (Ext.andThen hE hx1 (by intro k h1 h2; first | exact h2 | exact .inl h2 | exact .inr h2 | exact (h2 : False).elim | (exfalso; (try simp only [] at *); omega))) hk2 (by intro k h1 h2; first | exact h2 | exact .inl h2 | exact .inr h2 | exact (h2 : False).elim | (exfalso; (try simp only [] at *); omega))) hx3 (by intro k h1 h2; first | exact h2 | exact .inl h2 | exact .inr h2 | exact (h2 : False).elim | (exfalso; (try simp only [] at *); omega))) hx4 (by intro k h1 h2; first | exact h2 | exact .inl h2 | exact .inr h2 | exact (h2 : False).elim | (exfalso; (try simp only [] at *); omega)))⟩
    · have hbb : bb = true := by simpa using hc
      refine X.skip ?_
      refine X.inBlock ?_
      refine hback ys' _ _ ⟨rfl, rfl, trivial⟩ ⟨(((hBl.ext hx1 hTbl).keep (hk2.step hx3 (by intros; (try simp only [] at *); omega))).ext hx4 hUbl), ((hC1.keep (hk2.step hx3 (by intros; (try simp only [] at *); omega))).ext hx4 (fun k _ h => hUc k h)), hyT hbb, (Ext.andThen (Ext.andThen (Ext.andThen (Ext.andThen hE hx1 (by intro k h1 h2; first | exact h2 | exact .inl h2 | exact .inr h2 | exact (h2 : False).elim | (exfalso; (try simp only [] at *); omega))) hk2 (by intro k h1 h2; first | exact h2 | exact .inl h2 | exact .inr h2 | exact (h2 : False).elim | (exfalso; (try simp only [] at *); omega))) hx3 (by intro k h1 h2; first | exact h2 | exact .inl h2 | exact .inr h2 | exact (h2 : False).elim | (exfalso; (try simp only [] at *); omega))) hx4 (by intro k h1 h2; first | exact h2 | exact .inl h2 | exact .inr h2 | exact (h2 : False).elim | (exfalso; (try simp only [] at *); omega))), by omega⟩ (by simp)
-- f23 "pedigree/merge.All[pedigree/pedigreeref09.Thing]" params [33] results [44] -> [(ResultVar.tmp 2)] nfre
set_option maxHeartbeats 4000000 in
set_option maxRecDepth 100000 in
theorem All_c (w : World) (p : Value) : Ret Try.prog 23 #[.iface 84 p] w fun r w' => r = .func (.func 52) #[] #[.pointer (some ⟨w.heap.size, 0, none⟩)] ∧ Blk w' w.heap.size [.iface 84 p] 33 ∧ Keep w w' ∧ w'.heap.size = w.heap.size + 1 := by
  refine X.enter Try.func23 rfl Try.ntmps23 rfl ?_
  refine X.seq ?_
  refine X.region ?_
  refine X.opE X.wN rfl (X.boxE rfl rfl) ?_
  rintro _ w1 ⟨rfl, hB1, hk1, hz1⟩
  refine X.opw X.wN rfl (X.assign rfl) ?_
  refine X.opsEnd ?_
  refine X.seq ?_
  refine X.region ?_
  refine X.opw X.wN rfl (X.mkFunc rfl) ?_
  refine X.opw X.wN rfl (X.assign rfl) ?_
  refine X.opsEnd ?_
  refine X.ret1 Try.func23 Try.results23 rfl ?_
  exact ⟨rfl, hB1, hk1, by omega⟩
-- f24 "pedigree/pedigreelaw09.MergeRows$1" params [29] results [4] -> [(ResultVar.tmp 6)] nfree 4 ntmps 30 na
set_option maxHeartbeats 4000000 in
set_option maxRecDepth 100000 in
theorem rows1_c (x : TH) (i most c1 c2 c3 c4 : Nat) {lo hi : Nat} {A : Option Addr} {n c : Nat} {l : List TH} (w : World) (h1 : Blk w c1 [.bool true] 4) (h2 : Blk w c2 [.int .i64 (i : Int)] 3) (h3 : Blk w c3 [.slice A n c] 24) (h4 : Blk w c4 [.int .i64 (most : Int)] 3) (hs : Sl KTh lo hi w A n l) (hx : l[i]? = some x) (hn : n ≤ 1000000) (hne : c1 ≠ c2 ∧ c1 ≠ c3 ∧ c1 ≠ c4 ∧ c2 ≠ c3 ∧ c2 ≠ c4) (hsl : (c1 < lo ∨ hi ≤ c1) ∧ (c2 < lo ∨ hi ≤ c2)) :
    Ret Try.prog 24 #[evT x, .pointer (some ⟨c1, 0, none⟩), .pointer (some ⟨c2, 0, none⟩), .pointer (some ⟨c3, 0, none⟩), .pointer (some ⟨c4, 0, none⟩)] w fun r w' => r = .bool (decide (i + 1 < most)) ∧ Blk w' c1 [.bool true] 4 ∧ Blk w' c2 [.int .i64 ((i + 1 : Nat) : Int)] 3 ∧ Ext (fun k => k = c1 ∨ k = c2) w w' := by
  have hl := hs.len
  have hil := (List.getElem?_eq_some_iff.1 hx).1
  have h1l := h1.lt
  have h2l := h2.lt
  have h3l := h3.lt
  have h4l := h4.lt
  refine X.enter Try.func24 rfl Try.ntmps24 rfl ?_
  refine X.seq ?_
  refine X.region ?_
  refine X.opE X.wN rfl (X.boxE rfl rfl) ?_
  rintro _ w1 ⟨rfl, hB1, hk1, hz1⟩
  refine X.opw X.wN rfl (X.assign rfl) ?_
  refine X.opsEnd ?_
  refine X.seq ?_
  refine X.regionD (fun _ => False) 15 (by kernel_rfl) (by kernel_rfl) (fun w2 hk2 hz2 => ?_)
  refine X.dTake 0 rfl (by kernel_rfl) (by kernel_rfl) (by kernel_rfl) (X.dwN rfl) (fun w' hk' => X.load1B Try.isAgg4 (h1.keep ((hk1.trans hk2).trans hk')) rfl rfl) ?_
  refine X.dTake 1 rfl (by kernel_rfl) (by kernel_rfl) (by kernel_rfl) (X.dwN rfl) (fun w' hk' => X.move (v := .bool _) rfl) ?_
  refine X.dFork 8 rfl (fun h8 => ?_) (fun h8 => ?_)
  · refine X.dTake 2 rfl (by kernel_rfl) (by kernel_rfl) (by kernel_rfl) (X.dwG rfl rfl rfl) (fun w' hk' => X.load1B Try.isAgg3 (h2.keep ((hk1.trans hk2).trans hk')) rfl rfl) ?_
    refine X.dTake 3 rfl (by kernel_rfl) (by kernel_rfl) (by kernel_rfl) (X.dwG rfl rfl rfl) (fun w' hk' => X.load1B Try.isAgg24 (h3.keep ((hk1.trans hk2).trans hk')) rfl rfl) ?_
    refine X.dTake 4 rfl (by kernel_rfl) (by kernel_rfl) (by kernel_rfl) (X.dwG rfl rfl rfl) (fun w' hk' => X.lenSl Try.underlying24 rfl) ?_
    refine X.dTake 5 rfl (by kernel_rfl) (by kernel_rfl) (by kernel_rfl) (X.dwG rfl rfl rfl) (fun w' hk' => X.lss rfl rfl) ?_
    refine X.dTake 6 rfl (by kernel_rfl) (by kernel_rfl) (by kernel_rfl) (X.dwN rfl) (fun w' hk' => X.pickT (v := .bool _) rfl rfl) ?_
    refine X.dTake 7 rfl (by kernel_rfl) (by kernel_rfl) (by kernel_rfl) (X.dwN rfl) (fun w' hk' => X.move (v := .bool _) rfl) ?_
    refine X.dFork 14 rfl (fun h14 => ?_) (fun h14 => ?_)
    · refine X.dTake 8 rfl (by kernel_rfl) (by kernel_rfl) (by kernel_rfl) (X.dwG rfl rfl rfl) (fun w' hk' => X.load1B Try.isAgg24 (h3.keep ((hk1.trans hk2).trans hk')) rfl rfl) ?_
      refine X.dTake 9 rfl (by kernel_rfl) (by kernel_rfl) (by kernel_rfl) (X.dwG rfl rfl rfl) (fun w' hk' => X.load1B Try.isAgg3 (h2.keep ((hk1.trans hk2).trans hk')) rfl rfl) ?_
      refine X.dTake 10 rfl (by kernel_rfl) (by kernel_rfl) (by kernel_rfl) (X.dwG rfl rfl rfl) (fun w' hk' => X.idxS (hs.keep ((hk1.trans hk2).trans hk')) Try.underlying24 Try.sizeOf29 rfl rfl ⟨by omega, by omega⟩) ?_
      refine X.dTake 11 rfl (by kernel_rfl) (by kernel_rfl) (by kernel_rfl) (X.dwG rfl rfl rfl) (fun w' hk' => X.loadSN Try.isAgg29 Try.sizeOf29 (hs.keep ((hk1.trans hk2).trans hk')) hx rfl (fun _ h => h.1) rfl) ?_
      refine X.dTake 12 rfl (by kernel_rfl) (by kernel_rfl) (by kernel_rfl) (X.dwG rfl rfl rfl) (fun w' hk' => X.loadNB Try.isAgg29 Try.sizeOf29 (hB1.keep (hk2.trans hk')) rfl rfl rfl) ?_
      refine X.dTake 13 rfl (by kernel_rfl) (by kernel_rfl) (by kernel_rfl) (X.dwG rfl rfl rfl) (fun w' hk' => X.eqA eqT_guard rfl rfl (eqT x x _)) ?_
      refine X.dTake 14 rfl (by kernel_rfl) (by kernel_rfl) (by kernel_rfl) (X.dwN rfl) (fun w' hk' => X.pickT (v := .bool _) rfl rfl) ?_
      refine X.dE (i := 15) (by kernel_rfl) rfl (X.dwN rfl) (X.storeE Try.sizeOf4 (h1.keep (hk1.trans hk2)) rfl rfl rfl rfl) (fun _ _ _ h => absurd h (by decide)) ?_
      rintro _ w3 ⟨hB3, hx3, hz3⟩
      refine X.dEnd (by kernel_rfl) ?_
      refine X.seq ?_
      refine X.region ?_
      refine X.opw X.wN rfl (X.load1B Try.isAgg3 ((h2.keep (hk1.trans hk2)).ext hx3 (by intros; (try simp only []); omega)) rfl rfl) ?_
      refine X.opw X.wN rfl (X.add (c := ((i + 1 : Nat) : Int)) rfl rfl (by rw [X.w_i64 (by omega)]; omega)) ?_
      refine X.opE X.wN rfl (X.storeE Try.sizeOf3 ((h2.keep (hk1.trans hk2)).ext hx3 (by intros; (try simp only []); omega)) rfl rfl rfl rfl) ?_
      rintro _ w4 ⟨hB4, hx4, hz4⟩
      refine X.opsEnd ?_
      refine X.seq ?_
      refine X.region ?_
      refine X.opw X.wN rfl (X.load1B Try.isAgg4 (hB3.ext hx4 (by intros; (try simp only []); omega)) rfl rfl) ?_
      refine X.opw X.wN rfl (X.move (v := .bool _) rfl) ?_
      refine X.forkO 25 rfl (fun h25 => ?_) (fun h25 => ?_)
      · refine X.opw (X.wG rfl rfl rfl) rfl (X.load1B Try.isAgg3 hB4 rfl rfl) ?_
        refine X.opw (X.wG rfl rfl rfl) rfl (X.load1B Try.isAgg3 (((h4.keep (hk1.trans hk2)).ext hx3 (by intros; (try simp only []); omega)).ext hx4 (by intros; (try simp only []); omega)) rfl rfl) ?_
        refine X.opw (X.wG rfl rfl rfl) rfl (X.lss rfl rfl) ?_
        refine X.opw X.wN rfl (X.pickT (v := .bool _) rfl rfl) ?_
        refine X.opw X.wN rfl (X.assign (v := .bool _) rfl) ?_
        refine X.opsEnd ?_
        refine X.ret1 (v := (.bool _)) Try.func24 Try.results24 rfl ?_
        exact ⟨congrArg Value.bool (decide_eq_decide.2 ⟨fun h => by omega, fun h => by omega⟩), (by have h : Blk _ c1 [.bool (decide (x = x))] 4 := (hB3.ext hx4 (by intros; (try simp only []); omega)); rw [decide_eq_true (rfl : x = x)] at h; exact h), hB4, (Ext.andThen (Ext.andThen (Ext.andThen (Ext.andThen (Ext.refl (fun k => k = c1 ∨ k = c2) _) hk1 (by intro k h1 h2; first | exact h2 | exact .inl h2 | exact .inr h2 | exact (h2 : False).elim | (exfalso; (try simp only [] at *); omega))) hk2 (by intro k h1 h2; first | exact h2 | exact .inl h2 | exact .inr h2 | exact (h2 : False).elim | (exfalso; (try simp only [] at *); omega))) hx3 (by intro k h1 h2; first | exact h2 | exact .inl h2 | exact .inr h2 | exact (h2 : False).elim | (exfalso; (try simp only [] at *); omega))) hx4 (by intro k h1 h2; first | exact h2 | exact .inl h2 | exact .inr h2 | exact (h2 : False).elim | (exfalso; (try simp only [] at *); omega)))⟩
      · simp at h25
    · exact absurd (of_decide_eq_false h14) (by omega)
  · cases h8
end Go.Proofs.Ytgfficbkajcdpaa

namespace Go.Proofs.Ytgfficbkajcdpaa
open Go Go.Proofs.Ytgfficbkajcdpaa.X
set_option linter.unusedVariables false
set_option linter.unusedSimpArgs false
-- f21 "pedigree/merge.Rest[pedigree/pedigreeref09.Thing]" params [33] results [24] -> [(ResultVar.tmp 2)] nfr
set_option maxHeartbeats 4000000 in
set_option maxRecDepth 100000 in
theorem Rest_c {B : Nat} {Tc : Nat → Prop} {p : Value} {xs : List TH} (w : World) (hC : Cur Try.prog evT (0, 0) NX B Tc p xs w) (hBw : B ≤ w.heap.size) (hTb : ∀ k, Tc k → k < w.heap.size) (hxl : xs.length ≤ 1000000) : Ret Try.prog 21 #[.iface 84 p] w fun v w' => Mine KTh 29 (fun k => w.heap.size ≤ k ∧ k < w'.heap.size) 0 0 w' v xs ∧ Ext Tc w w' := by
  refine X.enter Try.func21 rfl Try.ntmps21 rfl ?_
  refine X.seq ?_
  refine X.region ?_
  refine X.opw X.wN rfl (X.assign rfl) ?_
  refine X.opsEnd ?_
  refine X.seq ?_
  refine X.region ?_
  refine X.opE X.wN rfl (X.allocE Try.zeroValue24 rfl) ?_
  rintro _ w1 ⟨rfl, hB1, hk1, hz1⟩
  refine X.opsEnd ?_
  refine X.seq ?_
  refine X.seq ?_
  refine X.region ?_
  refine X.opw X.wN rfl (X.move rfl) ?_
  refine X.opE X.wN rfl (X.callE (All_c _ p) Try.call23 rfl rfl) ?_
  rintro _ w2 ⟨rfl, hB2, hk2, hz2⟩
  refine X.opsEnd ?_
  refine X.block ?_
  refine X.rangeFunc' (cap := [ptrV w1.heap.size]) (Q := fun w' => ∃ v, Blk w' w.heap.size [v] 24 ∧ Mine KTh 29 (fun k => w.heap.size ≤ k ∧ k ≠ w.heap.size ∧ k ≠ w1.heap.size ∧ k ≠ (w2.heap.size + 1) ∧ k ≠ w2.heap.size) 0 0 w' v xs ∧ w'.heap[w2.heap.size]? = some (.deferred (some [])) ∧ Ext Tc w w' ∧ w2.heap.size + 2 ≤ w'.heap.size) rfl Try.call52 rfl rfl (fun rec wq T0 hr1 hr2 hr3 hr4 hrT hr5 hr6 hr7 hrl hrd kq zq => ?_) ?_
  · refine (all1_c _ p w1.heap.size B Tc (fun k => w.heap.size ≤ k ∧ k ≠ w1.heap.size) (fun l1 w' => ∃ v out, out ++ l1 = xs ∧ Blk w' w.heap.size [v] 24 ∧ Mine KTh 29 (fun k => w.heap.size ≤ k ∧ k ≠ w.heap.size ∧ k ≠ w1.heap.size ∧ k ≠ (w2.heap.size + 1) ∧ k ≠ w2.heap.size) 0 0 w' v out ∧ w'.heap[(w2.heap.size + 1)]? = some (.loop rec) ∧ w'.heap[w2.heap.size]? = some (.deferred (some [])) ∧ w2.heap.size + 2 ≤ w'.heap.size) (fun _ _ => False) (xs := xs) wq (hB2.keep kq) ((hC.keep (hk1.trans hk2)).keep kq) (by omega) (fun k hk => by have := hTb k hk; omega) (fun h => by have := hTb _ h; omega) (by (try simp only []); omega) (fun k hk => ⟨by omega, fun h => by have := hTb k h; omega⟩) ⟨_, [], rfl, (hB1.keep hk2).keep kq, Mine.nil _ _ _ _ _ _, hrl, hrd, by omega⟩ ?_ ?_).mono ?_
    · rintro l1 wu wv ⟨v, out, h1, h2, h3, h4, h5, h6⟩ x
      have hxz := x.size
      exact ⟨v, out, h1, h2.ext x (fun h => by have := hTb _ h; omega), h3.ext x (by intro k h1 h2; omega) (fun k hk h => by have := hTb k h; omega), (x.keep _ (Array.getElem?_eq_some_iff.1 h4).1 (fun h => by have := hTb _ h; omega)).trans h4, (x.keep _ (Array.getElem?_eq_some_iff.1 h5).1 (fun h => by have := hTb _ h; omega)).trans h5, by omega⟩
    · rintro y ys wu ⟨v, out, h1, h2, h3, h4, h5, h6⟩
      have hol : out.length ≤ xs.length := by rw [← h1, List.length_append]; omega
      refine YC.round (r := rec) (N := 13) h4 (by rw [hr5]; rfl) (by rw [hr5, hr4, fold1]; exact hrT.put 7 _ (by decide)) ?_
      rw [hr3, hr6, hr7]
      refine X.region ?_
      refine X.opE X.wN rfl (X.allocE Try.zeroValue29 rfl) ?_
      rintro _ w3 ⟨rfl, hB3, hk3, hz3⟩
      refine X.opE X.wN rfl (X.storeNE Try.sizeOf29 hB3 rfl rfl rfl rfl (fun u hu => by simp at hu; rcases hu with rfl | rfl <;> rfl)) ?_
      rintro _ w4 ⟨hB4, hx4, hz4⟩
      refine X.opsEnd ?_
      refine X.beginRound' (r := rec) ((hx4.keep _ (by omega) (by (try simp only []); omega)).trans ((hk3.keep _ (by omega) id).trans h4)) hr1 (fun wb hLb hxb hzb => ?_)
      have hxb' := hxb.size
      refine X.block ?_
      refine X.region ?_
      refine X.opw X.wN rfl (X.load1B Try.isAgg24 ((h2.keep (hk3.step hx4 (by intros; (try simp only [] at *); omega))).ext hxb (by intros; (try simp only []); omega)) rfl rfl) ?_
      refine X.opw X.wN rfl (X.loadNB Try.isAgg29 Try.sizeOf29 (hB4.ext hxb (by intros; (try simp only []); omega)) rfl rfl rfl) ?_
      refine X.opE X.wN rfl (X.litKF KTh_flat (K := KTh) (xs := [Operand.tmp 9]) (vs := [evT y]) (ys := [y]) Try.underlying24 Try.sizeOf29 Try.zeroValue29 rfl rfl rfl rfl rfl (repsT y)) ?_
      rintro _ w5 ⟨rfl, hs5, hB5, hk5, hz5⟩
      refine X.opE X.wN rfl (X.appE (K := KTh) (S := fun k => w.heap.size ≤ k ∧ k ≠ w.heap.size ∧ k ≠ w1.heap.size ∧ k ≠ (w2.heap.size + 1) ∧ k ≠ w2.heap.size) KTh_flat Try.underlying24 ETh rfl rfl (((h3.keep (hk3.step hx4 (by intros; (try simp only [] at *); omega))).ext hxb (by intros; (try simp only []); omega) (by intros; (try simp only []); omega)).keep hk5) hs5 (by (try simp only [List.length_append, List.length_cons, List.length_nil, List.length_take, List.length_drop, List.length_map, List.length_range]); omega) (by intros; (try simp only [] at *); omega)) ?_
      rintro v6 w6 ⟨hM6, hx6⟩
      have hx6' := hx6.size
      have q7 := hM6.slF KTh_flat 0 (fun _ _ => Nat.zero_le _)
      obtain ⟨A7, c7, rfl, hc7, hs7⟩ := q7
      refine X.opE X.wN rfl (X.storeE Try.sizeOf24 ((((h2.keep (hk3.step hx4 (by intros; (try simp only [] at *); omega))).ext hxb (by intros; (try simp only []); omega)).keep hk5).ext hx6 (by intros; (try simp only []); omega)) rfl rfl rfl rfl) ?_
      rintro _ w8 ⟨hB8, hx8, hz8⟩
      refine X.opsEnd ?_
      refine X.inBlock ?_
      refine X.endRound' (r := rec) ((hx8.keep _ (by omega) (by (try simp only []); omega)).trans ((hx6.keep _ (by omega) (by (try simp only []); omega)).trans ((hk5.keep _ (by omega) id).trans hLb))) hr1 hr2 (fun we hLe hxe hze => ?_)
      exact ⟨true, rfl, (Ext.andThen (Ext.andThen (Ext.andThen (Ext.andThen (Ext.andThen (Ext.andThen (Ext.andThen (Ext.refl (fun k => w.heap.size ≤ k ∧ k ≠ w1.heap.size) _) hk3 (by intro k h1 h2; first | exact (h2 : False).elim | ((try simp only [] at *); omega))) hx4 (by intro k h1 h2; first | exact (h2 : False).elim | ((try simp only [] at *); omega))) hxb (by intro k h1 h2; first | exact (h2 : False).elim | ((try simp only [] at *); omega))) hk5 (by intro k h1 h2; first | exact (h2 : False).elim | ((try simp only [] at *); omega))) hx6 (by intro k h1 h2; first | exact (h2 : False).elim | ((try simp only [] at *); omega))) hx8 (by intro k h1 h2; first | exact (h2 : False).elim | ((try simp only [] at *); omega))) hxe (by intro k h1 h2; first | exact (h2 : False).elim | ((try simp only [] at *); omega))), fun _ => ⟨_, out ++ [y], by rw [← h1]; simp, (hB8.ext hxe (by intros; (try simp only []); omega)), ((hM6.ext hx8 (by intros; (try simp only []); omega) (by intros; (try simp only []); omega)).ext hxe (by intros; (try simp only []); omega) (by intros; (try simp only []); omega)), hLe, ((hxe.keep _ (by omega) (by (try simp only []); omega)).trans ((hx8.keep _ (by omega) (by (try simp only []); omega)).trans ((hx6.keep _ (by omega) (by (try simp only []); omega)).trans ((hk5.keep _ (by omega) id).trans ((hxb.keep _ (by omega) (by (try simp only []); omega)).trans ((hx4.keep _ (by omega) (by (try simp only []); omega)).trans ((hk3.keep _ (by omega) id).trans h5))))))), by omega⟩, fun h => by cases h⟩
    · rintro v wz ⟨_, ⟨ys, _, ⟨rfl, v', out, h1, h2, h3, h4, h5, h6⟩ | h⟩, hxq⟩
      · rw [List.append_nil] at h1
        subst h1
        exact ⟨⟨rec, h4, by rw [hr1]; simp, hr2⟩, v', h2, h3, h5, Ext.andThen (Ext.andThen (show Ext Tc w _ from ((hk1.trans hk2)).mono (fun _ _ h => h.elim)) kq (fun _ _ h => h.elim)) hxq (fun k h1 h2 => h2.elim id (fun h => by omega)), h6⟩
      · exact h.elim
  · rintro wz we ⟨v, h2, h3, h5, hxq, h6⟩ hxe hze
    obtain ⟨hdf, _⟩ := Array.getElem?_eq_some_iff.1 h5
    refine X.inBlock ?_
    refine X.seq ?_
    refine X.region ?_
    refine X.opw X.wN rfl (X.load1B Try.isAgg24 (h2.ext hxe (by intros; (try simp only []); omega)) rfl rfl) ?_
    refine X.opw X.wN rfl (X.assign rfl) ?_
    refine X.opsEnd ?_
    refine X.ret_unw ?_
    refine X.collected' (by simp) ((hxe.keep _ (by omega) (by (try simp only []); omega)).trans h5) (fun wf hxf hzf => ?_)
    refine X.unwT1 Try.func21 Try.results21 rfl ?_
    exact ⟨(((h3.ext hxe (by intros; (try simp only []); omega) (by intros; (try simp only []); omega)).ext hxf (by intros; (try simp only []); omega) (by intros; (try simp only []); omega))).mono (fun k hk hs => ⟨hs.1, hk⟩), (Ext.andThen (Ext.andThen hxq hxe (by intro k h1 h2; first | exact (h2 : False).elim | (exfalso; (try simp only [] at *); omega))) hxf (by intro k h1 h2; first | exact (h2 : False).elim | (exfalso; (try simp only [] at *); omega)))⟩
end Go.Proofs.Ytgfficbkajcdpaa

namespace Go.Proofs.Ytgfficbkajcdpaa
open Go Go.Proofs.Ytgfficbkajcdpaa.X
set_option linter.unusedVariables false
set_option linter.unusedSimpArgs false
def onceL : Option TH → List TH → List TH
  | _, [] => []
  | none, x :: xs => x :: onceL (some x) xs
  | some p, x :: xs => if p.1 = x.1 then onceL (some p) xs else x :: onceL (some x) xs
theorem once_new {p : Option TH} {x : TH} {xs : List TH} (h : p = none ∨ (p.getD (0, 0)).1 ≠ x.1) : onceL p (x :: xs) = x :: onceL (some x) xs := by
  cases p with
  | none => rfl
  | some p => rw [onceL, if_neg (by simpa using h)]
theorem once_old {p : Option TH} {x : TH} {xs : List TH} (h : p ≠ none) (h2 : (p.getD (0, 0)).1 = x.1) : onceL p (x :: xs) = onceL p xs := by
  cases p with
  | none => exact absurd rfl h
  | some p => rw [onceL, if_pos (by simpa using h2)]
theorem once_len : ∀ (xs : List TH) (p : Option TH), (onceL p xs).length ≤ xs.length
  | [], p => by cases p <;> exact Nat.le_refl _
  | x :: xs, none => by have := once_len xs (some x); simp [onceL]; omega
  | x :: xs, some p => by
    have := once_len xs (some x)
    have := once_len xs (some p)
    rw [onceL]; split <;> simp <;> omega
theorem cmp_eq {nc : Int} {a b : Int} (h1 : nc < 0 ↔ a < b) (h2 : 0 < nc ↔ b < a) : nc = 0 ↔ a = b := by
  constructor
  · intro h; have := mt h1.2 (by omega); have := mt h2.2 (by omega); omega
  · intro h; have := mt h1.1 (by omega); have := mt h2.1 (by omega); omega
theorem last_at {l : List TH} (h : l ≠ []) : ∃ z, l[l.length - 1]? = some z ∧ l.getLast? = some z := by
  refine ⟨l.getLast h, ?_, List.getLast?_eq_some_getLast h⟩
  rw [← List.getLast?_eq_getElem?]; exact List.getLast?_eq_some_getLast h
-- f27 "pedigree/pedigreeref09.Once" params [24] results [24] -> [(ResultVar.tmp 2)] nfree 0 ntmps 36 names ["
set_option maxHeartbeats 4000000 in
set_option maxRecDepth 100000 in
theorem ROnce_c {lo hi : Nat} {A : Option Addr} {n c : Nat} {l : List TH} (w : World) (hs : Sl KTh lo hi w A n l) (hn : n ≤ 1000000) : Ret Try.prog 27 #[.slice A n c] w fun r w' => Fresh KTh 29 w w' r (onceL none l) := by
  have hl := hs.len
  refine X.enter Try.func27 rfl Try.ntmps27 rfl ?_
  refine X.seq ?_
  refine X.region ?_
  refine X.opw X.wN rfl (X.assign rfl) ?_
  refine X.opsEnd ?_
  refine X.seq ?_
  refine X.region ?_
  refine X.opw X.wN rfl (X.assign rfl) ?_
  refine X.opsEnd ?_
  refine X.seq ?_
  refine X.seq ?_
  refine X.region ?_
  refine X.opw X.wN rfl (X.assign rfl) ?_
  refine X.opsEnd ?_
  refine X.block ?_
  -- LOOP live: 0=l, 3=out*, 4=i*
  refine X.loopL (σ := Nat × Value × List TH) (fun s => [(0, .slice A n c), (3, s.2.1), (4, .int .i64 (s.1 : Int))]) (fun s w' => s.1 ≤ n ∧ s.2.2.length ≤ s.1 ∧ s.2.2 ++ onceL s.2.2.getLast? (l.drop s.1) = onceL none l ∧ Mine KTh 29 (fun k => w.heap.size ≤ k) 0 0 w' s.2.1 s.2.2 ∧ Keep w w') (fun s => n - s.1) (0, _, []) ⟨rfl, rfl, rfl, trivial⟩ ⟨Nat.zero_le _, Nat.zero_le _, by simp, Mine.nil _ _ _ _ _ _, (Keep.refl _)⟩ ?_
  rintro ⟨i, v, out⟩ b0 wl ⟨hi, hol, ho, hM0, hk⟩ hback
  dsimp only
  simp only at hi hol ho hM0
  have hk' := hk.size
  refine X.seq ?_
  refine X.seq ?_
  refine X.region ?_
  refine X.opw X.wN rfl (X.move (v := .int .i64 _) rfl) ?_
  refine X.opw X.wN rfl (X.move (v := .slice _ _ _) rfl) ?_
  refine X.opw X.wN rfl (X.lenSl Try.underlying24 rfl) ?_
  refine X.opP X.wN rfl rfl (X.lss rfl rfl) (fun h8 => ?_) (fun h8 => ?_)
  · obtain ⟨x, hx⟩ := get2 i hl (by omega)
    refine X.opsEnd ?_
    refine X.condT rfl ?_
    refine X.skip ?_
    refine X.seq ?_
    refine X.block ?_
    refine X.seq ?_
    refine X.regionD (fun _ => False) 17 (by kernel_rfl) (by kernel_rfl) (fun w1 hk1 hz1 => ?_)
    refine X.dTake 0 rfl (by kernel_rfl) (by kernel_rfl) (by kernel_rfl) (X.dwN rfl) (fun w' hk' => X.move rfl) ?_
    have q2 := (hM0.keep hk1).slF KTh_flat 0 (fun _ _ => Nat.zero_le _)
    obtain ⟨A2, c2, rfl, hc2, hs2⟩ := q2
    refine X.dTake 1 rfl (by kernel_rfl) (by kernel_rfl) (by kernel_rfl) (X.dwN rfl) (fun w' hk' => X.lenSl Try.underlying24 rfl) ?_
    refine X.dTake 2 rfl (by kernel_rfl) (by kernel_rfl) (by kernel_rfl) (X.dwN rfl) (fun w' hk' => X.eqI rfl rfl) ?_
    refine X.dTake 3 rfl (by kernel_rfl) (by kernel_rfl) (by kernel_rfl) (X.dwN rfl) (fun w' hk' => X.move (v := .bool _) rfl) ?_
    refine X.dFork 14 rfl (fun h14 => ?_) (fun h14 => ?_)
    · have hout : out = [] := List.eq_nil_of_length_eq_zero (by have := of_decide_eq_true h14; omega)
      have hnew : out.getLast? = none ∨ ((out.getLast?).getD (0, 0)).1 ≠ x.1 := .inl (by rw [hout]; rfl)
      refine X.dTakeS 4 rfl (by kernel_rfl) (by kernel_rfl) (by kernel_rfl) rfl rfl rfl rfl ?_
      refine X.dTakeS 5 rfl (by kernel_rfl) (by kernel_rfl) (by kernel_rfl) rfl rfl rfl rfl ?_
      refine X.dTakeS 6 rfl (by kernel_rfl) (by kernel_rfl) (by kernel_rfl) rfl rfl rfl rfl ?_
      refine X.dTakeS 7 rfl (by kernel_rfl) (by kernel_rfl) (by kernel_rfl) rfl rfl rfl rfl ?_
      refine X.dTakeS 8 rfl (by kernel_rfl) (by kernel_rfl) (by kernel_rfl) rfl rfl rfl rfl ?_
      refine X.dTakeS 9 rfl (by kernel_rfl) (by kernel_rfl) (by kernel_rfl) rfl rfl rfl rfl ?_
      refine X.dTakeS 10 rfl (by kernel_rfl) (by kernel_rfl) (by kernel_rfl) rfl rfl rfl rfl ?_
      refine X.dSkip (i := 11) (by kernel_rfl) rfl rfl rfl rfl rfl ?_
      refine X.dSkip (i := 12) (by kernel_rfl) rfl rfl rfl rfl rfl ?_
      refine X.dSkip (i := 13) (by kernel_rfl) rfl rfl rfl rfl rfl ?_
      refine X.dSkip (i := 14) (by kernel_rfl) rfl rfl rfl rfl rfl ?_
      refine X.dSkip (i := 15) (by kernel_rfl) rfl rfl rfl rfl rfl ?_
      refine X.dTake 16 rfl (by kernel_rfl) (by kernel_rfl) (by kernel_rfl) (X.dwN rfl) (fun w' hk' => X.pickT (v := .bool true) rfl rfl) ?_
      refine X.dEnd (by kernel_rfl) ?_
      refine X.condT rfl ?_
      refine X.region ?_
      refine X.opw X.wN rfl (X.move rfl) ?_
      refine X.opw X.wN rfl (X.move (v := .slice _ _ _) rfl) ?_
      refine X.opw X.wN rfl (X.move (v := .int .i64 _) rfl) ?_
      refine X.opw X.wN rfl (X.idxS (hs.keep (hk.trans hk1)) Try.underlying24 Try.sizeOf29 rfl rfl ⟨by omega, by omega⟩) ?_
      refine X.opw X.wN rfl (X.loadSN Try.isAgg29 Try.sizeOf29 (hs.keep (hk.trans hk1)) hx rfl (fun _ h => h.1) rfl) ?_
      refine X.opE X.wN rfl (X.litKF KTh_flat (K := KTh) (xs := [Operand.tmp 32]) (vs := [evT x]) (ys := [x]) Try.underlying24 Try.sizeOf29 Try.zeroValue29 rfl rfl rfl rfl rfl (repsT x)) ?_
      rintro _ w3 ⟨rfl, hs3, hB3, hk3, hz3⟩
      refine X.opE X.wN rfl (X.appE (K := KTh) (S := fun k => w.heap.size ≤ k) KTh_flat Try.underlying24 ETh rfl rfl (hM0.keep (hk1.trans hk3)) hs3 (by (try simp only [List.length_append, List.length_cons, List.length_nil, List.length_take, List.length_drop, List.length_map, List.length_range]); omega) (by intros; (try simp only [] at *); omega)) ?_
      rintro v4 w4 ⟨hM4, hx4⟩
      have hx4' := hx4.size
      refine X.opw X.wN rfl (X.assign rfl) ?_
      refine X.opsEnd ?_
      refine X.inBlock ?_
      refine X.region ?_
      refine X.opw X.wN rfl (X.move (v := .int .i64 _) rfl) ?_
      refine X.opw X.wN rfl (X.add rfl rfl (X.w_i64 (by omega))) ?_
      refine X.opw X.wN rfl (X.assign (v := .int .i64 _) rfl) ?_
      refine X.opsEnd ?_
      refine hback (i + 1, _, out ++ [x]) _ _ ⟨rfl, rfl, rfl, trivial⟩ ⟨by dsimp only; omega, by dsimp only; rw [List.length_append]; simp only [List.length_cons, List.length_nil]; omega, by dsimp only; rw [← ho, drop_at hx, once_new hnew]; simp, hM4, (((hk.trans hk1).trans hk3).step hx4 (by intros; (try simp only [] at *); omega))⟩ (by dsimp only; omega)
    · have hout : out ≠ [] := fun h => by rw [h] at h14; simp at h14
      obtain ⟨z, hz, hzl⟩ := last_at hout
      have hlo : 0 < out.length := Nat.pos_of_ne_zero (fun h => hout (List.eq_nil_of_length_eq_zero h))
      refine X.dTake 4 rfl (by kernel_rfl) (by kernel_rfl) (by kernel_rfl) (X.dwG rfl rfl rfl) (fun w' hk' => X.move rfl) ?_
      refine X.dTake 5 rfl (by kernel_rfl) (by kernel_rfl) (by kernel_rfl) (X.dwG rfl rfl rfl) (fun w' hk' => X.move rfl) ?_
      refine X.dTake 6 rfl (by kernel_rfl) (by kernel_rfl) (by kernel_rfl) (X.dwG rfl rfl rfl) (fun w' hk' => X.lenSl Try.underlying24 rfl) ?_
      refine X.dTake 7 rfl (by kernel_rfl) (by kernel_rfl) (by kernel_rfl) (X.dwG rfl rfl rfl) (fun w' hk' => X.sub (c := ((out.length - 1 : Nat) : Int)) rfl rfl (by rw [X.w_i64 (by omega)]; omega)) ?_
      refine X.dTake 8 rfl (by kernel_rfl) (by kernel_rfl) (by kernel_rfl) (X.dwG rfl rfl rfl) (fun w' hk' => X.idxS (hs2.keep hk') Try.underlying24 Try.sizeOf29 rfl rfl ⟨by omega, by omega⟩) ?_
      refine X.dTake 9 rfl (by kernel_rfl) (by kernel_rfl) (by kernel_rfl) (X.dwG rfl rfl rfl) (fun w' hk' => X.loadSN Try.isAgg29 Try.sizeOf29 (hs2.keep hk') hz rfl (fun _ h => h.1) rfl) ?_
      refine X.dTake 10 rfl (by kernel_rfl) (by kernel_rfl) (by kernel_rfl) (X.dwG rfl rfl rfl) (fun w' hk' => X.move (v := .slice _ _ _) rfl) ?_
      refine X.dTake 11 rfl (by kernel_rfl) (by kernel_rfl) (by kernel_rfl) (X.dwG rfl rfl rfl) (fun w' hk' => X.move (v := .int .i64 _) rfl) ?_
      refine X.dTake 12 rfl (by kernel_rfl) (by kernel_rfl) (by kernel_rfl) (X.dwG rfl rfl rfl) (fun w' hk' => X.idxS (hs.keep ((hk.trans hk1).trans hk')) Try.underlying24 Try.sizeOf29 rfl rfl ⟨by omega, by omega⟩) ?_
      refine X.dTake 13 rfl (by kernel_rfl) (by kernel_rfl) (by kernel_rfl) (X.dwG rfl rfl rfl) (fun w' hk' => X.loadSN Try.isAgg29 Try.sizeOf29 (hs.keep ((hk.trans hk1).trans hk')) hx rfl (fun _ h => h.1) rfl) ?_
      refine X.dE (i := 14) (by kernel_rfl) rfl (X.dwG rfl rfl rfl) (X.callE (Compare_c z x _) Try.call17 rfl rfl) (by rintro _ w5 ⟨nc5, rfl, hlt5, hgt5, hk5⟩ _; exact hk5.mono (fun _ _ h => h.elim)) ?_
      rintro _ w5 ⟨nc5, rfl, hlt5, hgt5, hk5⟩
      have hk5' := hk5.size
      refine X.dTake 15 rfl (by kernel_rfl) (by kernel_rfl) (by kernel_rfl) (X.dwG rfl rfl rfl) (fun w' hk' => X.neI rfl rfl) ?_
      refine X.dTake 16 rfl (by kernel_rfl) (by kernel_rfl) (by kernel_rfl) (X.dwN rfl) (fun w' hk' => X.pickF (v := .bool _) rfl rfl) ?_
      refine X.dEnd (by kernel_rfl) ?_
      refine X.condB rfl (fun hc => ?_) (fun hc => ?_)
      · have hnew : out.getLast? = none ∨ ((out.getLast?).getD (0, 0)).1 ≠ x.1 := .inr (by rw [hzl]; intro h; have := (cmp_eq hlt5 hgt5).2 h; simp [this] at hc)
        refine X.region ?_
        refine X.opw X.wN rfl (X.move rfl) ?_
        refine X.opw X.wN rfl (X.move (v := .slice _ _ _) rfl) ?_
        refine X.opw X.wN rfl (X.move (v := .int .i64 _) rfl) ?_
        refine X.opw X.wN rfl (X.idxS (hs.keep ((hk.trans hk1).trans hk5)) Try.underlying24 Try.sizeOf29 rfl rfl ⟨by omega, by omega⟩) ?_
        refine X.opw X.wN rfl (X.loadSN Try.isAgg29 Try.sizeOf29 (hs.keep ((hk.trans hk1).trans hk5)) hx rfl (fun _ h => h.1) rfl) ?_
        refine X.opE X.wN rfl (X.litKF KTh_flat (K := KTh) (xs := [Operand.tmp 32]) (vs := [evT x]) (ys := [x]) Try.underlying24 Try.sizeOf29 Try.zeroValue29 rfl rfl rfl rfl rfl (repsT x)) ?_
        rintro _ w6 ⟨rfl, hs6, hB6, hk6, hz6⟩
        refine X.opE X.wN rfl (X.appE (K := KTh) (S := fun k => w.heap.size ≤ k) KTh_flat Try.underlying24 ETh rfl rfl (hM0.keep ((hk1.trans hk5).trans hk6)) hs6 (by (try simp only [List.length_append, List.length_cons, List.length_nil, List.length_take, List.length_drop, List.length_map, List.length_range]); omega) (by intros; (try simp only [] at *); omega)) ?_
        rintro v7 w7 ⟨hM7, hx7⟩
        have hx7' := hx7.size
        refine X.opw X.wN rfl (X.assign rfl) ?_
        refine X.opsEnd ?_
        refine X.inBlock ?_
        refine X.region ?_
        refine X.opw X.wN rfl (X.move (v := .int .i64 _) rfl) ?_
        refine X.opw X.wN rfl (X.add rfl rfl (X.w_i64 (by omega))) ?_
        refine X.opw X.wN rfl (X.assign (v := .int .i64 _) rfl) ?_
        refine X.opsEnd ?_
        refine hback (i + 1, _, out ++ [x]) _ _ ⟨rfl, rfl, rfl, trivial⟩ ⟨by dsimp only; omega, by dsimp only; rw [List.length_append]; simp only [List.length_cons, List.length_nil]; omega, by dsimp only; rw [← ho, drop_at hx, once_new hnew]; simp, hM7, ((((hk.trans hk1).trans hk5).trans hk6).step hx7 (by intros; (try simp only [] at *); omega))⟩ (by dsimp only; omega)
      · have hold : ((out.getLast?).getD (0, 0)).1 = x.1 := by rw [hzl]; exact (cmp_eq hlt5 hgt5).1 (by simpa using hc)
        refine X.skip ?_
        refine X.inBlock ?_
        refine X.region ?_
        refine X.opw X.wN rfl (X.move (v := .int .i64 _) rfl) ?_
        refine X.opw X.wN rfl (X.add rfl rfl (X.w_i64 (by omega))) ?_
        refine X.opw X.wN rfl (X.assign (v := .int .i64 _) rfl) ?_
        refine X.opsEnd ?_
        refine hback (i + 1, _, out) _ _ ⟨rfl, rfl, rfl, trivial⟩ ⟨by dsimp only; omega, by dsimp only; omega, by dsimp only; rw [← ho, drop_at hx, once_old (by rw [hzl]; simp) hold], (hM0.keep (hk1.trans hk5)), ((hk.trans hk1).trans hk5)⟩ (by dsimp only; omega)
  · refine X.opsEnd ?_
    refine X.condF rfl ?_
    refine X.exit rfl ?_
    refine X.seq ?_
    refine X.region ?_
    refine X.opw X.wN rfl (X.move rfl) ?_
    refine X.opw X.wN rfl (X.assign rfl) ?_
    refine X.opsEnd ?_
    refine X.ret1 Try.func27 Try.results27 rfl ?_
    exact ⟨by rw [List.drop_of_length_le (show l.length ≤ i by omega)] at ho; rw [show out = onceL none l by rw [← ho]; cases out.getLast? <;> simp [onceL]] at hM0; exact hM0, hk⟩
-- f53 "pedigree/merge.Once[pedigree/pedigreeref09.Thing]$1" params [] results [29, 4] -> [(ResultVar.cell 4 2
set_option maxHeartbeats 4000000 in
set_option maxRecDepth 100000 in
theorem Once1_c {B c3 c6 c2 c5 : Nat} {Tc : Nat → Prop} {p : Option TH} {xs0 : List TH} {cv q : Value} (w : World) (hbl : Blk w c3 [.iface 84 q] 33 ∧ Blk w c6 [.bool p.isSome] 4 ∧ Blk w c2 [cv] 35 ∧ Blk w c5 [.int .i8 (p.getD (0, 0)).1, .int .i64 (p.getD (0, 0)).2] 29) (hC : Cur Try.prog evT (0, 0) NX B Tc q xs0 w) (hBs : B ≤ w.heap.size) (hB5 : B ≤ c5) (hB6 : B ≤ c6) (hsep : ∀ k, Tc k → k ≠ c3 ∧ k ≠ c6 ∧ k ≠ c2 ∧ k ≠ c5 ∧ k < w.heap.size) (hne : c3 ≠ c5 ∧ c3 ≠ c6 ∧ c2 ≠ c5 ∧ c2 ≠ c6 ∧ c5 ≠ c6) (hcmp : CmpOk cv) :
    Ret Try.prog 53 #[.pointer (some ⟨c3, 0, none⟩), .pointer (some ⟨c6, 0, none⟩), .pointer (some ⟨c2, 0, none⟩), .pointer (some ⟨c5, 0, none⟩)] w fun r w' => r = hdV evT (0, 0) (onceL p xs0) ∧ Ext (fun k => Tc k ∨ k = c5 ∨ k = c6) w w' ∧ (onceL p xs0 ≠ [] → ∃ x xs, (onceL p xs0).tail = onceL (some x) xs ∧ Cur Try.prog evT (0, 0) NX B Tc q xs w' ∧ (Blk w' c3 [.iface 84 q] 33 ∧ Blk w' c6 [.bool true] 4 ∧ Blk w' c2 [cv] 35 ∧ Blk w' c5 [.int .i8 x.1, .int .i64 x.2] 29)) := by
  obtain ⟨h3, h6, h2, h5⟩ := hbl
  have h3l := h3.lt
  have h6l := h6.lt
  have h2l := h2.lt
  have h5l := h5.lt
  refine X.enter Try.func53 rfl Try.ntmps53 rfl ?_
  refine X.seq ?_
  refine X.region ?_
  refine X.opE X.wN rfl (X.allocE Try.zeroValue29 rfl) ?_
  rintro _ w1 ⟨rfl, hB1, hk1, hz1⟩
  refine X.opw X.wN rfl (X.assign rfl) ?_
  refine X.opsEnd ?_
  refine X.block ?_
  -- LOOP live: 0, 1, 2, 3, 4=x
  refine X.loopL (σ := TH × List TH) (fun s => [(0, .pointer (some ⟨c3, 0, none⟩)), (1, .pointer (some ⟨c6, 0, none⟩)), (2, .pointer (some ⟨c2, 0, none⟩)), (3, .pointer (some ⟨c5, 0, none⟩)), (4, .pointer (some ⟨w.heap.size, 0, none⟩))]) (fun s w' => onceL p s.2 = onceL p xs0 ∧ (Blk w' c3 [.iface 84 q] 33 ∧ Blk w' c6 [.bool p.isSome] 4 ∧ Blk w' c2 [cv] 35 ∧ Blk w' c5 [.int .i8 (p.getD (0, 0)).1, .int .i64 (p.getD (0, 0)).2] 29) ∧ Blk w' w.heap.size [.int .i8 s.1.1, .int .i64 s.1.2] 29 ∧ Cur Try.prog evT (0, 0) NX B Tc q s.2 w' ∧ Ext (fun k => Tc k ∨ k = c5 ∨ k = c6) w w' ∧ w.heap.size < w'.heap.size) (fun s => s.2.length) ((0, 0), xs0) ⟨rfl, rfl, rfl, rfl, rfl, trivial⟩ ⟨rfl, ⟨(h3.keep hk1), (h6.keep hk1), (h2.keep hk1), (h5.keep hk1)⟩, hB1, hC.keep hk1, hk1.mono (fun _ _ h => h.elim), by omega⟩ ?_
  rintro ⟨z, xs⟩ b0 wl ⟨hol, ⟨hBa, hBb, hBc, hBd⟩, hBz, hCc, hE, hwl⟩ hback
  dsimp only
  simp only at hol hBz hCc
  refine X.block ?_
  refine X.seq ?_
  refine X.seq ?_
  refine X.region ?_
  refine X.opw X.wN rfl (X.load1B Try.isAgg33 hBa rfl rfl) ?_
  refine X.opE X.wN rfl (X.invokeE rfl (next_m _) hCc.next Try.call98) ?_
  rintro _ w2 ⟨rfl, hx2, hC2⟩
  have hx2' := hx2.size
  refine X.opw X.wN rfl (X.move rfl) ?_
  refine X.opw X.wN rfl (X.extr rfl rfl) ?_
  refine X.opw X.wN rfl (X.extr rfl rfl) ?_
  refine X.opE X.wN rfl (X.storeNE Try.sizeOf29 (hBz.ext hx2 (by intro h; have := hsep _ h; omega)) rfl rfl rfl rfl (fun u hu => by simp at hu; rcases hu with rfl | rfl <;> rfl)) ?_
  rintro _ w3 ⟨hB3, hx3, hz3⟩
  refine X.opw X.wN rfl (X.assign (v := .bool _) rfl) ?_
  refine X.opsEnd ?_
  refine X.seq ?_
  refine X.region ?_
  refine X.opw X.wN rfl (X.move (v := .bool _) rfl) ?_
  refine X.opw X.wN rfl (X.not_ rfl) ?_
  refine X.opsEnd ?_
  refine X.condB rfl (fun hc => ?_) (fun hc => ?_)
  · obtain rfl : xs = [] := by simpa using hc
    refine X.seq ?_
    refine X.region ?_
    refine X.opw X.wN rfl (X.loadNB Try.isAgg29 Try.sizeOf29 hB3 rfl rfl rfl) ?_
    refine X.opE X.wN rfl (X.storeNE Try.sizeOf29 hB3 rfl rfl rfl rfl (fun u hu => by simp at hu; rcases hu with rfl | rfl <;> rfl)) ?_
    rintro _ w4 ⟨hB4, hx4, hz4⟩
    refine X.opw X.wN rfl (X.assign rfl) ?_
    refine X.opsEnd ?_
    refine X.ret_unw (X.unwR2 Try.func53 Try.results53 (X.ResOk.cell rfl (X.lvN Try.isAgg29 Try.sizeOf29 hB4 rfl)) (show X.ResOk _ _ _ (.tmp 5) (.bool _) from rfl) ?_)
    rw [← hol]
    have e0 : onceL p [] = [] := by cases p <;> rfl
    rw [e0]
    exact ⟨rfl, (Ext.andThen (Ext.andThen (Ext.andThen hE hx2 (by intro k h1 h2; first | exact (h2 : False).elim | exact .inl h2 | exact .inr (.inl h2) | exact .inr (.inr h2) | exact h2 | (exfalso; (try simp only [] at *); omega))) hx3 (by intro k h1 h2; first | exact (h2 : False).elim | exact .inl h2 | exact .inr (.inl h2) | exact .inr (.inr h2) | exact h2 | (exfalso; (try simp only [] at *); omega))) hx4 (by intro k h1 h2; first | exact (h2 : False).elim | exact .inl h2 | exact .inr (.inl h2) | exact .inr (.inr h2) | exact h2 | (exfalso; (try simp only [] at *); omega))), fun h => absurd rfl h⟩
  · obtain ⟨x, xs', rfl⟩ : ∃ x xs', xs = x :: xs' := by
      cases xs with
      | nil => simp at hc
      | cons x xs' => exact ⟨x, xs', rfl⟩
    refine X.skip ?_
    refine X.seq ?_
    refine X.region ?_
    refine X.opw X.wN rfl (X.load1B Try.isAgg4 ((hBb.ext hx2 (by intro h; have := hsep _ h; omega)).ext hx3 (by first | (intros; (try simp only []); omega) | (intro h; have := hsep _ h; omega))) rfl rfl) ?_
    refine X.opw X.wN rfl (X.not_ rfl) ?_
    refine X.opw X.wN rfl (X.move (v := .bool _) rfl) ?_
    refine X.forkO 16 rfl (fun h16 => ?_) (fun h16 => ?_)
    · have hnew : p = none ∨ (p.getD (0, 0)).1 ≠ x.1 := .inl (by cases p with
        | none => rfl
        | some p => simp at h16)
      refine X.opS rfl rfl rfl rfl rfl ?_
      refine X.opS rfl rfl rfl rfl rfl ?_
      refine X.opS rfl rfl rfl rfl rfl ?_
      refine X.opS rfl rfl rfl rfl rfl ?_
      refine X.opS rfl rfl rfl rfl rfl ?_
      refine X.opw X.wN rfl (X.pickT (v := .bool true) rfl rfl) ?_
      refine X.opsEnd ?_
      refine X.condT rfl ?_
      refine X.seq ?_
      refine X.region ?_
      refine X.opw X.wN rfl (X.loadNB Try.isAgg29 Try.sizeOf29 hB3 rfl rfl rfl) ?_
      refine X.opE X.wN rfl (X.storeNE Try.sizeOf29 ((hBd.ext hx2 (by intro h; have := hsep _ h; omega)).ext hx3 (by first | (intros; (try simp only []); omega) | (intro h; have := hsep _ h; omega))) rfl rfl rfl rfl (fun u hu => by simp at hu; rcases hu with rfl | rfl <;> rfl)) ?_
      rintro _ w5 ⟨hB5, hx5, hz5⟩
      refine X.opE X.wN rfl (X.storeE Try.sizeOf4 (((hBb.ext hx2 (by intro h; have := hsep _ h; omega)).ext hx3 (by first | (intros; (try simp only []); omega) | (intro h; have := hsep _ h; omega))).ext hx5 (by first | (intros; (try simp only []); omega) | (intro h; have := hsep _ h; omega))) rfl rfl rfl rfl) ?_
      rintro _ w6 ⟨hB6, hx6, hz6⟩
      refine X.opsEnd ?_
      refine X.seq ?_
      refine X.region ?_
      refine X.opw X.wN rfl (X.loadNB Try.isAgg29 Try.sizeOf29 ((hB3.ext hx5 (by first | (intros; (try simp only []); omega) | (intro h; have := hsep _ h; omega))).ext hx6 (by first | (intros; (try simp only []); omega) | (intro h; have := hsep _ h; omega))) rfl rfl rfl) ?_
      refine X.opE X.wN rfl (X.storeNE Try.sizeOf29 ((hB3.ext hx5 (by first | (intros; (try simp only []); omega) | (intro h; have := hsep _ h; omega))).ext hx6 (by first | (intros; (try simp only []); omega) | (intro h; have := hsep _ h; omega))) rfl rfl rfl rfl (fun u hu => by simp at hu; rcases hu with rfl | rfl <;> rfl)) ?_
      rintro _ w7 ⟨hB7, hx7, hz7⟩
      refine X.opw X.wN rfl (X.assign rfl) ?_
      refine X.opsEnd ?_
      refine X.ret_unw (X.unwR2 Try.func53 Try.results53 (X.ResOk.cell rfl (X.lvN Try.isAgg29 Try.sizeOf29 hB7 rfl)) (show X.ResOk _ _ _ (.tmp 5) (.bool _) from rfl) ?_)
      rw [← hol, once_new hnew]
      exact ⟨rfl, (Ext.andThen (Ext.andThen (Ext.andThen (Ext.andThen (Ext.andThen hE hx2 (by intro k h1 h2; first | exact (h2 : False).elim | exact .inl h2 | exact .inr (.inl h2) | exact .inr (.inr h2) | exact h2 | (exfalso; (try simp only [] at *); omega))) hx3 (by intro k h1 h2; first | exact (h2 : False).elim | exact .inl h2 | exact .inr (.inl h2) | exact .inr (.inr h2) | exact h2 | (exfalso; (try simp only [] at *); omega))) hx5 (by intro k h1 h2; first | exact (h2 : False).elim | exact .inl h2 | exact .inr (.inl h2) | exact .inr (.inr h2) | exact h2 | (exfalso; (try simp only [] at *); omega))) hx6 (by intro k h1 h2; first | exact (h2 : False).elim | exact .inl h2 | exact .inr (.inl h2) | exact .inr (.inr h2) | exact h2 | (exfalso; (try simp only [] at *); omega))) hx7 (by intro k h1 h2; first | exact (h2 : False).elim | exact .inl h2 | exact .inr (.inl h2) | exact .inr (.inr h2) | exact h2 | (exfalso; (try simp only [] at *); omega))), fun _ => ⟨x, xs', rfl, ((((hC2.ext hx3 (by intro k hk hk2; refine ⟨?_, fun ht => ?_⟩ <;> ((try simp only [] at *); first | omega | (have := hsep k ht; omega)))).ext hx5 (by intro k hk hk2; refine ⟨?_, fun ht => ?_⟩ <;> ((try simp only [] at *); first | omega | (have := hsep k ht; omega)))).ext hx6 (by intro k hk hk2; refine ⟨?_, fun ht => ?_⟩ <;> ((try simp only [] at *); first | omega | (have := hsep k ht; omega)))).ext hx7 (by intro k hk hk2; refine ⟨?_, fun ht => ?_⟩ <;> ((try simp only [] at *); first | omega | (have := hsep k ht; omega)))), ⟨(((((hBa.ext hx2 (by intro h; have := hsep _ h; omega)).ext hx3 (by first | (intros; (try simp only []); omega) | (intro h; have := hsep _ h; omega))).ext hx5 (by first | (intros; (try simp only []); omega) | (intro h; have := hsep _ h; omega))).ext hx6 (by first | (intros; (try simp only []); omega) | (intro h; have := hsep _ h; omega))).ext hx7 (by first | (intros; (try simp only []); omega) | (intro h; have := hsep _ h; omega))), (hB6.ext hx7 (by first | (intros; (try simp only []); omega) | (intro h; have := hsep _ h; omega))), (((((hBc.ext hx2 (by intro h; have := hsep _ h; omega)).ext hx3 (by first | (intros; (try simp only []); omega) | (intro h; have := hsep _ h; omega))).ext hx5 (by first | (intros; (try simp only []); omega) | (intro h; have := hsep _ h; omega))).ext hx6 (by first | (intros; (try simp only []); omega) | (intro h; have := hsep _ h; omega))).ext hx7 (by first | (intros; (try simp only []); omega) | (intro h; have := hsep _ h; omega))), ((hB5.ext hx6 (by first | (intros; (try simp only []); omega) | (intro h; have := hsep _ h; omega))).ext hx7 (by first | (intros; (try simp only []); omega) | (intro h; have := hsep _ h; omega)))⟩⟩⟩
    · have hp : p ≠ none := fun h => by rw [h] at h16; simp at h16
      refine X.opw (X.wG rfl rfl rfl) rfl (X.load1B Try.isAgg35 ((hBc.ext hx2 (by intro h; have := hsep _ h; omega)).ext hx3 (by first | (intros; (try simp only []); omega) | (intro h; have := hsep _ h; omega))) rfl rfl) ?_
      refine X.opw (X.wG rfl rfl rfl) rfl (X.loadNB Try.isAgg29 Try.sizeOf29 ((hBd.ext hx2 (by intro h; have := hsep _ h; omega)).ext hx3 (by first | (intros; (try simp only []); omega) | (intro h; have := hsep _ h; omega))) rfl rfl rfl) ?_
      refine X.opw (X.wG rfl rfl rfl) rfl (X.loadNB Try.isAgg29 Try.sizeOf29 hB3 rfl rfl rfl) ?_
      refine X.opE (X.wG rfl rfl rfl) rfl ((hcmp (p.getD (0, 0)) x _) _ _ _ _ _ _ _ _ _ rfl rfl) ?_
      rintro _ w8 ⟨nc8, rfl, hlt8, hgt8, hk8⟩
      have hk8' := hk8.size
      refine X.opP (X.wG rfl rfl rfl) rfl rfl (X.neI rfl rfl) (fun h21 => ?_) (fun h21 => ?_)
      · have hnew : p = none ∨ (p.getD (0, 0)).1 ≠ x.1 := .inr (fun h => h21 ((cmp_eq hlt8 hgt8).2 h))
        refine X.opw X.wN rfl (X.pickF (v := .bool true) rfl rfl) ?_
        refine X.opsEnd ?_
        refine X.condT rfl ?_
        refine X.seq ?_
        refine X.region ?_
        refine X.opw X.wN rfl (X.loadNB Try.isAgg29 Try.sizeOf29 (hB3.keep hk8) rfl rfl rfl) ?_
        refine X.opE X.wN rfl (X.storeNE Try.sizeOf29 (((hBd.ext hx2 (by intro h; have := hsep _ h; omega)).ext hx3 (by first | (intros; (try simp only []); omega) | (intro h; have := hsep _ h; omega))).keep hk8) rfl rfl rfl rfl (fun u hu => by simp at hu; rcases hu with rfl | rfl <;> rfl)) ?_
        rintro _ w9 ⟨hB9, hx9, hz9⟩
        refine X.opE X.wN rfl (X.storeE Try.sizeOf4 ((((hBb.ext hx2 (by intro h; have := hsep _ h; omega)).ext hx3 (by first | (intros; (try simp only []); omega) | (intro h; have := hsep _ h; omega))).keep hk8).ext hx9 (by first | (intros; (try simp only []); omega) | (intro h; have := hsep _ h; omega))) rfl rfl rfl rfl) ?_
        rintro _ w10 ⟨hB10, hx10, hz10⟩
        refine X.opsEnd ?_
        refine X.seq ?_
        refine X.region ?_
        refine X.opw X.wN rfl (X.loadNB Try.isAgg29 Try.sizeOf29 (((hB3.keep hk8).ext hx9 (by first | (intros; (try simp only []); omega) | (intro h; have := hsep _ h; omega))).ext hx10 (by first | (intros; (try simp only []); omega) | (intro h; have := hsep _ h; omega))) rfl rfl rfl) ?_
        refine X.opE X.wN rfl (X.storeNE Try.sizeOf29 (((hB3.keep hk8).ext hx9 (by first | (intros; (try simp only []); omega) | (intro h; have := hsep _ h; omega))).ext hx10 (by first | (intros; (try simp only []); omega) | (intro h; have := hsep _ h; omega))) rfl rfl rfl rfl (fun u hu => by simp at hu; rcases hu with rfl | rfl <;> rfl)) ?_
        rintro _ w11 ⟨hB11, hx11, hz11⟩
        refine X.opw X.wN rfl (X.assign rfl) ?_
        refine X.opsEnd ?_
        refine X.ret_unw (X.unwR2 Try.func53 Try.results53 (X.ResOk.cell rfl (X.lvN Try.isAgg29 Try.sizeOf29 hB11 rfl)) (show X.ResOk _ _ _ (.tmp 5) (.bool _) from rfl) ?_)
        rw [← hol, once_new hnew]
        exact ⟨rfl, (Ext.andThen (Ext.andThen (Ext.andThen (Ext.andThen (Ext.andThen (Ext.andThen hE hx2 (by intro k h1 h2; first | exact (h2 : False).elim | exact .inl h2 | exact .inr (.inl h2) | exact .inr (.inr h2) | exact h2 | (exfalso; (try simp only [] at *); omega))) hx3 (by intro k h1 h2; first | exact (h2 : False).elim | exact .inl h2 | exact .inr (.inl h2) | exact .inr (.inr h2) | exact h2 | (exfalso; (try simp only [] at *); omega))) hk8 (by intro k h1 h2; first | exact (h2 : False).elim | exact .inl h2 | exact .inr (.inl h2) | exact .inr (.inr h2) | exact h2 | (exfalso; (try simp only [] at *); omega))) hx9 (by intro k h1 h2; first | exact (h2 : False).elim | exact .inl h2 | exact .inr (.inl h2) | exact .inr (.inr h2) | exact h2 | (exfalso; (try simp only [] at *); omega))) hx10 (by intro k h1 h2; first | exact (h2 : False).elim | exact .inl h2 | exact .inr (.inl h2) | exact .inr (.inr h2) | exact h2 | (exfalso; (try simp only [] at *); omega))) hx11 (by intro k h1 h2; first | exact (h2 : False).elim | exact .inl h2 | exact .inr (.inl h2) | exact .inr (.inr h2) | exact h2 | (exfalso; (try simp only [] at *); omega))), fun _ => ⟨x, xs', rfl, (((((hC2.ext hx3 (by intro k hk hk2; refine ⟨?_, fun ht => ?_⟩ <;> ((try simp only [] at *); first | omega | (have := hsep k ht; omega)))).keep hk8).ext hx9 (by intro k hk hk2; refine ⟨?_, fun ht => ?_⟩ <;> ((try simp only [] at *); first | omega | (have := hsep k ht; omega)))).ext hx10 (by intro k hk hk2; refine ⟨?_, fun ht => ?_⟩ <;> ((try simp only [] at *); first | omega | (have := hsep k ht; omega)))).ext hx11 (by intro k hk hk2; refine ⟨?_, fun ht => ?_⟩ <;> ((try simp only [] at *); first | omega | (have := hsep k ht; omega)))), ⟨((((((hBa.ext hx2 (by intro h; have := hsep _ h; omega)).ext hx3 (by first | (intros; (try simp only []); omega) | (intro h; have := hsep _ h; omega))).keep hk8).ext hx9 (by first | (intros; (try simp only []); omega) | (intro h; have := hsep _ h; omega))).ext hx10 (by first | (intros; (try simp only []); omega) | (intro h; have := hsep _ h; omega))).ext hx11 (by first | (intros; (try simp only []); omega) | (intro h; have := hsep _ h; omega))), (hB10.ext hx11 (by first | (intros; (try simp only []); omega) | (intro h; have := hsep _ h; omega))), ((((((hBc.ext hx2 (by intro h; have := hsep _ h; omega)).ext hx3 (by first | (intros; (try simp only []); omega) | (intro h; have := hsep _ h; omega))).keep hk8).ext hx9 (by first | (intros; (try simp only []); omega) | (intro h; have := hsep _ h; omega))).ext hx10 (by first | (intros; (try simp only []); omega) | (intro h; have := hsep _ h; omega))).ext hx11 (by first | (intros; (try simp only []); omega) | (intro h; have := hsep _ h; omega))), ((hB9.ext hx10 (by first | (intros; (try simp only []); omega) | (intro h; have := hsep _ h; omega))).ext hx11 (by first | (intros; (try simp only []); omega) | (intro h; have := hsep _ h; omega)))⟩⟩⟩
      · have hold := (cmp_eq hlt8 hgt8).1 (Decidable.not_not.1 h21)
        refine X.opw X.wN rfl (X.pickF (v := .bool false) rfl rfl) ?_
        refine X.opsEnd ?_
        refine X.condF rfl ?_
        refine X.skip ?_
        refine X.inBlock ?_
        refine hback (x, xs') _ _ ⟨rfl, rfl, rfl, rfl, rfl, trivial⟩ ⟨(once_old hp hold).symm.trans hol, ⟨(((hBa.ext hx2 (by intro h; have := hsep _ h; omega)).ext hx3 (by first | (intros; (try simp only []); omega) | (intro h; have := hsep _ h; omega))).keep hk8), (((hBb.ext hx2 (by intro h; have := hsep _ h; omega)).ext hx3 (by first | (intros; (try simp only []); omega) | (intro h; have := hsep _ h; omega))).keep hk8), (((hBc.ext hx2 (by intro h; have := hsep _ h; omega)).ext hx3 (by first | (intros; (try simp only []); omega) | (intro h; have := hsep _ h; omega))).keep hk8), (((hBd.ext hx2 (by intro h; have := hsep _ h; omega)).ext hx3 (by first | (intros; (try simp only []); omega) | (intro h; have := hsep _ h; omega))).keep hk8)⟩, (hB3.keep hk8), ((hC2.ext hx3 (by intro k hk hk2; refine ⟨?_, fun ht => ?_⟩ <;> ((try simp only [] at *); first | omega | (have := hsep k ht; omega)))).keep hk8), (Ext.andThen (Ext.andThen (Ext.andThen hE hx2 (by intro k h1 h2; first | exact (h2 : False).elim | exact .inl h2 | exact .inr (.inl h2) | exact .inr (.inr h2) | exact h2 | (exfalso; (try simp only [] at *); omega))) hx3 (by intro k h1 h2; first | exact (h2 : False).elim | exact .inl h2 | exact .inr (.inl h2) | exact .inr (.inr h2) | exact h2 | (exfalso; (try simp only [] at *); omega))) hk8 (by intro k h1 h2; first | exact (h2 : False).elim | exact .inl h2 | exact .inr (.inl h2) | exact .inr (.inr h2) | exact h2 | (exfalso; (try simp only [] at *); omega))), by omega⟩ (by simp)
theorem once_stp {B a b c3 c6 c2 c5 : Nat} {Tc : Nat → Prop} {p : Option TH} {xs0 : List TH} {cv q : Value} {w : World} (hbl : Blk w c3 [.iface 84 q] 33 ∧ Blk w c6 [.bool p.isSome] 4 ∧ Blk w c2 [cv] 35 ∧ Blk w c5 [.int .i8 (p.getD (0, 0)).1, .int .i64 (p.getD (0, 0)).2] 29) (hC : Cur Try.prog evT (0, 0) NX B Tc q xs0 w) (hBa : B ≤ a) (hbw : b ≤ w.heap.size) (hT : ∀ k, Tc k → a ≤ k ∧ k < b) (h3 : a ≤ c3 ∧ c3 < b) (h6 : a ≤ c6 ∧ c6 < b) (h2 : a ≤ c2 ∧ c2 < b) (h5 : a ≤ c5 ∧ c5 < b)
    (hsep : ∀ k, Tc k → k ≠ c3 ∧ k ≠ c6 ∧ k ≠ c2 ∧ k ≠ c5) (hne : c3 ≠ c5 ∧ c3 ≠ c6 ∧ c2 ≠ c5 ∧ c2 ≠ c6 ∧ c5 ≠ c6) (hcmp : CmpOk cv) : Stp Try.prog evT (0, 0) B (fun k => a ≤ k ∧ k < b) (.func (.func 53) #[] #[ptrV c3, ptrV c6, ptrV c2, ptrV c5]) (onceL p xs0) w := by
  refine ⟨fun l w => ∃ p xs0, l = onceL p xs0 ∧ b ≤ w.heap.size ∧ (Blk w c3 [.iface 84 q] 33 ∧ Blk w c6 [.bool p.isSome] 4 ∧ Blk w c2 [cv] 35 ∧ Blk w c5 [.int .i8 (p.getD (0, 0)).1, .int .i64 (p.getD (0, 0)).2] 29) ∧ Cur Try.prog evT (0, 0) NX B Tc q xs0 w, ⟨p, xs0, rfl, hbw, hbl, hC⟩, ?_, ?_⟩
  · rintro l w w' ⟨p, xs, g1, g2, ⟨q3, q6, q2, q5⟩, g4⟩ ha
    have hz := ha.size
    exact ⟨p, xs, g1, by omega, ⟨ha.blk q3 h3, ha.blk q6 h6, ha.blk q2 h2, ha.blk q5 h5⟩, g4.agree (ha.sub hT)⟩
  · rintro l w ⟨p, xs, rfl, g2, g3, g4⟩
    refine YC.of_ret (args := []) (cap := [_, _, _, _]) ((Once1_c w g3 g4 (by omega) (by omega) (by omega) (fun k hk => by have := hsep k hk; have := hT k hk; omega) hne hcmp).mono ?_) Try.call53
    rintro r w' ⟨rfl, hx, hn'⟩
    have hz := hx.size
    refine ⟨rfl, hx.mono fun k _ hk => by rcases hk with hk | hk | hk; exact hT k hk; exact hk ▸ h5; exact hk ▸ h6, fun hne' => ?_⟩
    obtain ⟨x, xs', e1, e2, e3⟩ := hn' hne'
    exact ⟨some x, xs', e1, by omega, e3, e2⟩
-- f26 "pedigree/merge.Once[pedigree/pedigreeref09.Thing]" params [35, 33] results [33] -> [(ResultVar.tmp 4)]
set_option maxHeartbeats 4000000 in
set_option maxRecDepth 100000 in
theorem Once_c {B a0 b0 : Nat} {q : Value} {l0 : List TH} {fn : Fn} {bs ca : Array Value} (w : World) (h0 : CV B (fun k => a0 ≤ k ∧ k < b0) (.iface 84 q) l0 w) (hB : B ≤ a0) (hab : a0 ≤ b0) (hb : b0 ≤ w.heap.size) (hcmp : CmpOk (.func fn bs ca)) :
    Ret Try.prog 26 #[.func fn bs ca, .iface 84 q] w fun r w' => (∃ p', r = .iface 84 p') ∧ CV B (fun k => a0 ≤ k ∧ k < w'.heap.size) r (onceL none l0) w' ∧ Keep w w' := by
  refine X.enter Try.func26 rfl Try.ntmps26 rfl ?_
  refine X.seq ?_
  refine X.region ?_
  refine X.opE X.wN rfl (X.boxE rfl rfl) ?_
  rintro _ w1 ⟨rfl, hB1, hk1, hz1⟩
  refine X.opE X.wN rfl (X.boxE rfl rfl) ?_
  rintro _ w2 ⟨rfl, hB2, hk2, hz2⟩
  refine X.opw X.wN rfl (X.assign rfl) ?_
  refine X.opsEnd ?_
  refine X.seq ?_
  refine X.seq ?_
  refine X.region ?_
  refine X.opw X.wN rfl (X.load1B Try.isAgg35 (hB1.keep hk2) rfl rfl) ?_
  refine X.opw X.wN rfl (X.eqFn1 Try.underlying35 rfl rfl) ?_
  refine X.opw X.wN rfl (X.move (v := .bool false) rfl) ?_
  refine X.opw (X.wG rfl rfl rfl) rfl (X.load1B Try.isAgg33 hB2 rfl rfl) ?_
  refine X.opw (X.wG rfl rfl rfl) rfl (X.eqIf1 Try.underlying33 rfl rfl) ?_
  refine X.opw X.wN rfl (X.pickF (v := .bool false) rfl rfl) ?_
  refine X.opsEnd ?_
  refine X.condF rfl ?_
  refine X.skip ?_
  refine X.seq ?_
  refine X.region ?_
  refine X.opE X.wN rfl (X.allocE Try.zeroValue29 rfl) ?_
  rintro _ w3 ⟨rfl, hB3, hk3, hz3⟩
  refine X.opsEnd ?_
  refine X.seq ?_
  refine X.region ?_
  refine X.opE X.wN rfl (X.allocE Try.zeroValue4 rfl) ?_
  rintro _ w4 ⟨rfl, hB4, hk4, hz4⟩
  refine X.opE X.wN rfl (X.storeE Try.sizeOf4 hB4 rfl rfl rfl rfl) ?_
  rintro _ w5 ⟨hB5, hx5, hz5⟩
  refine X.opsEnd ?_
  refine X.seq ?_
  refine X.region ?_
  refine X.opw X.wN rfl (X.mkFunc rfl) ?_
  refine X.opw X.wN rfl (X.buildB (vs := [(0, .func (.func 53) #[] #[ptrV (w1.heap.size), ptrV (w3.heap.size), ptrV (w.heap.size), ptrV (w2.heap.size)])]) (cs := #[.func (.func 53) #[] #[ptrV (w1.heap.size), ptrV (w3.heap.size), ptrV (w.heap.size), ptrV (w2.heap.size)], .bool false]) rfl (by kernel_rfl)) ?_
  refine X.opE X.wN rfl (X.boxE rfl rfl) ?_
  rintro _ w6 ⟨rfl, hB6, hk6, hz6⟩
  refine X.opw X.wN rfl (X.mkIface Try.underlying84 rfl rfl) ?_
  refine X.opw X.wN rfl (X.assign rfl) ?_
  refine X.opsEnd ?_
  refine X.ret1 Try.func26 Try.results26 rfl ?_
  refine ⟨⟨_, rfl⟩, ?_, (((((hk1.trans hk2).trans hk3).trans hk4).step hx5 (by intros; (try simp only [] at *); omega)).trans hk6)⟩
  exact CV.wide (cur_made (a := a0) (b := w5.heap.size) (once_stp (p := none) (Tc := fun k => a0 ≤ k ∧ k < b0) ⟨(hB2.keep (((hk3.trans hk4).step hx5 (by intros; (try simp only [] at *); omega)).trans hk6)), (hB5.keep hk6), (hB1.keep ((((hk2.trans hk3).trans hk4).step hx5 (by intros; (try simp only [] at *); omega)).trans hk6)), (hB3.keep ((hk4.step hx5 (by intros; (try simp only [] at *); omega)).trans hk6))⟩ (CV.cur (h0.keep (((((hk1.trans hk2).trans hk3).trans hk4).step hx5 (by intros; (try simp only [] at *); omega)).trans hk6))) hB (by omega) (fun k hk => by omega) (by omega) (by omega) (by omega) (by omega) (fun k hk => by (try simp only [] at *); omega) (by omega) hcmp) hB6 (by omega) (Nat.le_refl _) (by omega)) (fun k hk => by omega)
end Go.Proofs.Ytgfficbkajcdpaa

namespace Go.Proofs.Ytgfficbkajcdpaa.X
open Go
set_option linter.unusedVariables false
set_option linter.unusedSimpArgs false

abbrev PCE := UInt8 × List UInt8
def KPc : Kd PCE := Kd.pair KB (Kd.slice KB)
theorem Sl.all {α : Type} {K : Kd α} (hF : Flat K) (hz : 0 < K.sz) {lo hi : Nat} {w : World} {A : Option Addr} {n : Nat} {xs : List α} (h : Sl K lo hi w A n xs) : Sl K 0 w.heap.size w A n xs := by
  refine ⟨h.len, h.bound, fun hn => ?_⟩
  obtain ⟨ad, e, h1, h2, hc⟩ := h.at_ hn
  refine ⟨ad, e, Nat.zero_le _, ?_, fun j x hx => ?_⟩
  · obtain ⟨cs, hr, hq⟩ := hc 0 (xs[0]'(by rw [h.len]; exact hn)) (List.getElem?_eq_getElem _)
    have hl := K.len hr
    have := hq 0 (cs[0]'(by omega)) (List.getElem?_eq_getElem _)
    have := World.block_lt_of_cell? w _ this
    rwa [add_block] at this
  · obtain ⟨cs, hr, hq⟩ := hc j x hx
    exact ⟨cs, hF hr, hq⟩
/-- What values of pieces hold; their bytes lie in blocks of G. -/
def PData (G : Nat → Prop) (w : World) : List Value → List PCE → Prop
  | [], [] => True
  | v :: vs, p :: ps => (∃ A n c lo hi, v = .agg #[.int .u8 (p.1.toNat : Int), .slice A n c] ∧ n ≤ c ∧ (∀ k, lo ≤ k → k < hi → G k) ∧ Sl KB lo hi w A n p.2) ∧ PData G w vs ps
  | _, _ => False
theorem PData.len {G : Nat → Prop} {w : World} : ∀ {vs : List Value} {ps : List PCE}, PData G w vs ps → vs.length = ps.length
  | [], [], _ => rfl
  | _ :: _, _ :: _, h => by simp [PData.len h.2]
  | [], _ :: _, h => h.elim
  | _ :: _, [], h => h.elim
theorem PData.move {G G' : Nat → Prop} {w w' : World} (hG : ∀ k, G k → G' k) (hs : ∀ k, G k → k < w.heap.size → w'.heap[k]? = w.heap[k]?) : ∀ {vs : List Value} {ps : List PCE}, PData G w vs ps → PData G' w' vs ps
  | [], [], _ => trivial
  | _ :: _, _ :: _, h => by
    obtain ⟨⟨A, n, c, lo, hi, e, h1, h2, h3⟩, h4⟩ := h
    exact ⟨⟨A, n, c, lo, hi, e, h1, fun k a b => hG k (h2 k a b), h3.move fun k a b hk => hs k (h2 k a b) hk⟩, PData.move hG hs h4⟩
  | [], _ :: _, h => h.elim
  | _ :: _, [], h => h.elim
theorem PData.app {G : Nat → Prop} {w : World} : ∀ {vs us : List Value} {ps qs : List PCE}, PData G w vs ps → PData G w us qs → PData G w (vs ++ us) (ps ++ qs)
  | [], _, [], _, _, h => h
  | _ :: _, _, _ :: _, _, h, h' => ⟨h.1, PData.app h.2 h'⟩
  | [], _, _ :: _, _, h, _ => h.elim
  | _ :: _, _, [], _, h, _ => h.elim
theorem PData.get {G : Nat → Prop} {w : World} : ∀ {vs : List Value} {ps : List PCE}, PData G w vs ps → ∀ {j : Nat} {p : PCE}, ps[j]? = some p → ∃ A n c lo hi, vs[j]? = some (.agg #[.int .u8 (p.1.toNat : Int), .slice A n c]) ∧ n ≤ c ∧ Sl KB lo hi w A n p.2
  | [], [], _, j, p, hp => by simp at hp
  | v :: vs, q :: ps, h, j, p, hp => by
    cases j with
    | zero =>
      simp only [List.getElem?_cons_zero, Option.some.injEq] at hp
      subst hp
      obtain ⟨A, n, c, lo, hi, e, h1, _, h3⟩ := h.1
      exact ⟨A, n, c, lo, hi, by rw [e]; rfl, h1, h3⟩
    | succ j =>
      simp only [List.getElem?_cons_succ] at hp ⊢
      exact PData.get h.2 hp
  | [], _ :: _, h, _, _, _ => h.elim
  | _ :: _, [], h, _, _, _ => h.elim
/-- A row of pieces that is the call's own: its row in a block from base on, its bytes in blocks of G. -/
structure PR (e base : Nat) (G : Nat → Prop) (w : World) (v : Value) (ps : List PCE) : Prop where
  row : ∃ vs, Mine (KRN 2) e (fun k => base ≤ k ∧ ¬ G k) 0 0 w v vs ∧ PData G w vs ps
  g : ∀ k, G k → k < w.heap.size
  b : base ≤ w.heap.size
section
variable {e base : Nat} {G : Nat → Prop} {w w' : World} {v : Value} {ps : List PCE}
theorem PR.nil (e base : Nat) (w : World) (hb : base ≤ w.heap.size) : PR e base (fun _ => False) w (.slice none 0 0) [] := ⟨⟨[], Mine.nil _ _ _ _ _ _, trivial⟩, fun _ h => h.elim, hb⟩
theorem PR.ext (h : PR e base G w v ps) {T : Nat → Prop} (x : Ext T w w') (hT : ∀ k, T k → k < base ∧ ¬ G k) : PR e base G w' v ps := by
  obtain ⟨⟨vs, hM, hD⟩, hg, hb⟩ := h
  exact ⟨⟨vs, hM.ext x (by intro k h1 h2; omega) (fun k hk ht => by have := hT k ht; omega), hD.move (fun _ h => h) (fun k hk hl => x.keep k hl (fun ht => (hT k ht).2 hk))⟩, fun k hk => Nat.lt_of_lt_of_le (hg k hk) x.size, Nat.le_trans hb x.size⟩
theorem PR.keep (h : PR e base G w v ps) (x : Keep w w') : PR e base G w' v ps := h.ext x fun _ h => h.elim
/-- New blocks, or old ones, for bytes. -/
theorem PR.widen (h : PR e base G w v ps) (x : Keep w w') {H : Nat → Prop} (hH : ∀ k, H k → (w.heap.size ≤ k ∨ k < base) ∧ k < w'.heap.size) : PR e base (fun k => G k ∨ H k) w' v ps := by
  obtain ⟨⟨vs, hM, hD⟩, hg, hb⟩ := h
  refine ⟨⟨vs, (hM.mono (T := fun k => base ≤ k ∧ ¬ (G k ∨ H k)) fun k hk hS => ⟨hS.1, fun hq => hq.elim hS.2 fun hh => ?_⟩).keep x, hD.move (fun _ h => .inl h) (fun k _ hl => x.keep k hl id)⟩, fun k hk => hk.elim (fun h => Nat.lt_of_lt_of_le (hg k h) x.size) (fun h => (hH k h).2), Nat.le_trans hb x.size⟩
  have := (hH k hh).1
  omega
theorem PR.len (h : PR e base G w v ps) : ∃ A c, v = .slice A ps.length c ∧ ps.length ≤ c := by
  obtain ⟨⟨vs, hM, hD⟩, _, _⟩ := h
  obtain ⟨A, c, e1, h1, _⟩ := hM.slice
  rw [hD.len] at e1 h1
  exact ⟨A, c, e1, h1⟩
theorem PR.one (h : PR e base G w v ps) : v.oneCell' = true := by
  obtain ⟨A, c, rfl, _⟩ := h.len; rfl
/-- Read. -/
theorem PR.read (h : PR e base G w v ps) : ∃ A c, v = .slice A ps.length c ∧ ps.length ≤ c ∧ Sl KPc 0 w.heap.size w A ps.length ps := by
  obtain ⟨⟨vs, hM, hD⟩, _, _⟩ := h
  have q := hM.slF (KRN_flat 2) 0 (fun _ _ => Nat.zero_le _)
  obtain ⟨A, c, e1, h1, hs⟩ := q
  have hl := hD.len
  rw [hl] at e1 h1 hs
  refine ⟨A, c, e1, h1, rfl, hs.bound, fun hn => ?_⟩
  obtain ⟨ad, e2, g1, g2, hc⟩ := hs.at_ hn
  refine ⟨ad, e2, g1, g2, fun j p hp => ?_⟩
  obtain ⟨B, m, c', lo, hi, hv, hm, hS⟩ := hD.get hp
  obtain ⟨cs, ⟨r1, r2, r3⟩, hq⟩ := hc j _ hv
  injection r1 with r1
  have r1 : [Value.int .u8 (p.1.toNat : Int), .slice B m c'] = cs := by simpa using congrArg Array.toList r1
  subst r1
  exact ⟨_, ⟨[.int .u8 (p.1.toNat : Int)], [.slice B m c'], rfl, KB_R _ _ _ _, B, m, c', rfl, hm, hS.all KB_flat (by decide)⟩, hq⟩
theorem PR.rd2 (h : PR e base G w v ps) : ∃ vs A c, v = .slice A ps.length c ∧ ps.length ≤ c ∧ Sl (KRN 2) 0 w.heap.size w A ps.length vs ∧ PData G w vs ps := by
  obtain ⟨⟨vs, hM, hD⟩, _, _⟩ := h
  have q := hM.slF (KRN_flat 2) 0 (fun _ _ => Nat.zero_le _)
  obtain ⟨A, c, e1, h1, hs⟩ := q
  have hl := hD.len
  rw [hl] at e1 h1 hs
  exact ⟨vs, A, c, e1, h1, hs, hD⟩
theorem KRN2 {a b : Value} {lo hi : Nat} {w : World} {cs : List Value} (h : (KRN 2).R lo hi w (.agg #[a, b]) cs) : cs = [a, b] := by
  have h1 : Value.agg #[a, b] = .agg cs.toArray := h.1
  injection h1 with h1
  have := congrArg Array.toList h1
  simpa using this.symm
theorem reps1 {w : World} {a b : Value} (ha : a.oneCell' = true) (hb : b.oneCell' = true) : RepsV (KRN 2) w [.agg #[a, b]] [.agg #[a, b]] :=
  ⟨⟨[a, b], rfl, rfl, rfl, fun u hu => by simp at hu; rcases hu with rfl | rfl <;> assumption⟩, trivial⟩
/-- Pieces that came in, as values and what they hold. -/
theorem Sl.pieces {lo hi : Nat} {A : Option Addr} {n : Nat} (h : Sl KPc lo hi w A n ps) : ∃ vs, Sl (KRN 2) lo hi w A n vs ∧ PData (fun k => lo ≤ k ∧ k < hi) w vs ps := by
  have key : ∀ (ps : List PCE) (off : Nat), (∀ j p, ps[j]? = some p → ∃ B m c, m ≤ c ∧ Sl KB lo hi w B m p.2 ∧ ∀ ad, A = some ad → w.cell? (ad.add (off + j * 2)) = some (.int .u8 (p.1.toNat : Int)) ∧ w.cell? (ad.add (off + j * 2 + 1)) = some (.slice B m c)) →
      ∃ vs : List Value, PData (fun k => lo ≤ k ∧ k < hi) w vs ps ∧ (∀ j v, vs[j]? = some v → ∃ a b, v = .agg #[a, b] ∧ a.oneCell' = true ∧ b.oneCell' = true ∧ ∀ ad, A = some ad → w.cell? (ad.add (off + j * 2)) = some a ∧ w.cell? (ad.add (off + j * 2 + 1)) = some b) := by
    intro ps
    induction ps with
    | nil => intro off _; exact ⟨[], trivial, fun j v hv => by simp at hv⟩
    | cons p ps ih =>
      intro off hq
      obtain ⟨B, m, c, h1, h2, h3⟩ := hq 0 p rfl
      obtain ⟨vs, hr, hv⟩ := ih (off + 2) fun j y hy => by
        obtain ⟨B, m, c, g1, g2, g3⟩ := hq (j + 1) y (by simpa using hy)
        exact ⟨B, m, c, g1, g2, fun ad e => by have := g3 ad e; rwa [show off + (j + 1) * 2 = off + 2 + j * 2 by omega] at this⟩
      refine ⟨.agg #[.int .u8 (p.1.toNat : Int), .slice B m c] :: vs, ⟨⟨B, m, c, lo, hi, rfl, h1, fun _ a b => ⟨a, b⟩, h2⟩, hr⟩, fun j v hj => ?_⟩
      cases j with
      | zero =>
        simp only [List.getElem?_cons_zero, Option.some.injEq] at hj
        subst hj
        exact ⟨_, _, rfl, rfl, rfl, h3⟩
      | succ j =>
        simp only [List.getElem?_cons_succ] at hj
        obtain ⟨a, b, g1, g2, g3, g4⟩ := hv j v hj
        exact ⟨a, b, g1, g2, g3, fun ad e => by have := g4 ad e; rwa [show off + 2 + j * 2 = off + (j + 1) * 2 by omega] at this⟩
  obtain ⟨vs, hr, hv⟩ := key ps 0 fun j p hp => by
    obtain ⟨ad, cs, e1, ⟨a, b, rfl, ⟨rfl, _⟩, ⟨B, m, c, rfl, h1, h2⟩⟩, hq⟩ := h.get j p hp
    refine ⟨B, m, c, h1, h2, fun ad' e' => ?_⟩
    rw [e1] at e'
    cases e'
    have q0 := hq 0 _ rfl
    have q1 := hq 1 _ rfl
    have hz : KPc.sz = 2 := rfl
    rw [hz] at q0 q1
    exact ⟨by simpa using q0, by simpa using q1⟩
  refine ⟨vs, ⟨hr.len.trans h.len, h.bound, fun hn => ?_⟩, hr⟩
  obtain ⟨ad, e1, h1, h2, _⟩ := h.at_ hn
  refine ⟨ad, e1, h1, h2, fun j v hj => ?_⟩
  obtain ⟨a, b, g1, g2, g3, g4⟩ := hv j v hj
  subst g1
  have g := g4 ad e1
  rw [Nat.zero_add] at g
  refine ⟨[a, b], ⟨rfl, rfl, fun u hu => by simp at hu; rcases hu with rfl | rfl <;> assumption⟩, fun i u hu => ?_⟩
  have hz : (KRN 2).sz = 2 := rfl
  rw [hz]
  match i, hu with
  | 0, hu => simp at hu; subst hu; exact g.1
  | 1, hu => simp at hu; subst hu; exact g.2
end
section
variable {P : Program} {ρ : Operand → Value} {e base bytes : Nat} {G : Nat → Prop} {w : World} {v : Value} {ps : List PCE} {dst : Option Tmp} {ty : TypeId} {pos : String} {aft : Array Edge} {g : Option (Nat × Bool)}
/-- 'append(v, p)'. -/
theorem PR.appE {T : TypeId} {s x : Operand} {k : UInt8} {bs : List UInt8} {A B : Option Addr} {n c lo hi lo2 hi2 m c2 : Nat} (hR : PR e base G w v ps) (hT : P.underlying T = some (.slice e)) (hI : ElemInfo P e 2 bytes) (hs : ρ s = v) (hx : ρ x = .slice B m c2)
    (hL : Sl (KRN 2) lo2 hi2 w B m [.agg #[.int .u8 (k.toNat : Int), .slice A n c]]) (hnc : n ≤ c) (hG : ∀ k, lo ≤ k → k < hi → G k) (hS : Sl KB lo hi w A n bs) (hmax : (ps.length + 1) * bytes ≤ 140737488355328) :
    DoesE P ⟨dst, .call ⟨.builtin .append, #[s, x], #[T, T]⟩, ty, pos, aft, g⟩ ρ w fun v' w' => PR e base G w' v' (ps ++ [(k, bs)]) ∧ Ext (fun k => base ≤ k ∧ ¬ G k) w w' := by
  obtain ⟨⟨vs, hM, hD⟩, hg, hb⟩ := hR
  have hl := hD.len
  refine (X.appE (K := KRN 2) (S := fun k => base ≤ k ∧ ¬ G k) (KRN_flat 2) hT hI hs hx hM hL (by rw [hl]; exact hmax) (fun k hk => ⟨by omega, fun hq => by have := hg k hq; omega⟩)).mono fun v' w' ⟨h1, h2⟩ => ⟨⟨⟨_, h1, ?_⟩, fun k hk => Nat.lt_of_lt_of_le (hg k hk) h2.size, Nat.le_trans hb h2.size⟩, h2⟩
  exact (hD.app (us := [.agg #[.int .u8 (k.toNat : Int), .slice A n c]]) (qs := [(k, bs)]) ⟨⟨A, n, c, lo, hi, rfl, hnc, hG, hS⟩, trivial⟩).move (fun _ h => h) fun k hk hlt => h2.keep k hlt fun h => h.2 hk
end
end Go.Proofs.Ytgfficbkajcdpaa.X

namespace Go.Proofs.Ytgfficbkajcdpaa.X
open Go
set_option linter.unusedVariables false
set_option linter.unusedSimpArgs false

/-- Numbers. -/
def KNt : Kd Nat := Kd.plain 1 (fun c => [.int .i64 (c : Int)]) (fun _ => True) (fun _ => rfl) (fun _ u hu => by simp at hu; subst hu; rfl)
theorem KNt_flat : Flat KNt := fun h => h
theorem KNt_R (lo hi : Nat) (w : World) (y : Nat) : KNt.R lo hi w y [.int .i64 (y : Int)] := ⟨rfl, trivial⟩
theorem repsNt {w : World} (y : Nat) : RepsV KNt w [y] [.int .i64 (y : Int)] := ⟨⟨_, rfl, KNt_R 0 0 w y⟩, trivial⟩
section
variable {P : Program} {ρ : Operand → Value} {w : World} {dst : Option Tmp} {ty : TypeId} {pos : String} {aft : Array Edge} {g : Option (Nat × Bool)}
/-- 'append(v, x..)', the row's set told: it grows by the new blocks. -/
theorem appRow {α : Type} {K : Kd α} {e T : TypeId} {bytes : Nat} {S : Nat → Prop} {lo' hi' : Nat} {s x : Operand} {v : Value} {xs ys : List α} {A : Option Addr} {m c : Nat} (hF : Flat K) (hT : P.underlying T = some (.slice e)) (hI : ElemInfo P e K.sz bytes)
    (hs : ρ s = v) (hx : ρ x = .slice A m c) (hO : Mine K e S 0 0 w v xs) (hb : ∀ k, S k → k < w.heap.size) (hS : Sl K lo' hi' w A m ys) (hmax : (xs.length + ys.length) * bytes ≤ 140737488355328) :
    DoesE P ⟨dst, .call ⟨.builtin .append, #[s, x], #[T, T]⟩, ty, pos, aft, g⟩ ρ w fun v' w' => Mine K e (fun k => S k ∨ (w.heap.size ≤ k ∧ k < w'.heap.size)) 0 0 w' v' (xs ++ ys) ∧ Ext S w w' := by
  refine (appE (S := fun k => S k ∨ w.heap.size ≤ k) hF hT hI hs hx (hO.mono fun k _ h => .inl h) hS hmax (fun k h => .inr h)).mono fun v' w' ⟨h1, h2⟩ => ⟨h1.mono fun k hk h => h.elim .inl fun h => .inr ⟨h, hk⟩, ?_⟩
  exact h2.mono fun k hk h => h.elim id fun h => by omega
end

/-- Bytes, numbers and pieces (these with bytes in blocks below base), each in blocks of its own. -/
structure BK3 (tb ti tp base m1 m2 m3 : Nat) (S1 S2 S3 : Nat → Prop) (w : World) (va ve vp : Value) (la : List UInt8) (le : List Nat) (ps : List PCE) : Prop where
  a : Mine KB tb S1 0 0 w va la
  e : Mine KNt ti S2 0 0 w ve le
  p : ∃ vs, Mine (KRN 2) tp S3 0 0 w vp vs ∧ PData (fun k => k < base) w vs ps
  s1 : ∀ k, S1 k → base ≤ k ∧ k < m1
  s2 : ∀ k, S2 k → base ≤ k ∧ k < m2
  s3 : ∀ k, S3 k → base ≤ k ∧ k < m3
  l1 : m1 ≤ w.heap.size
  l2 : m2 ≤ w.heap.size
  l3 : m3 ≤ w.heap.size
  d12 : ∀ k, S1 k → ¬ S2 k
  d13 : ∀ k, S1 k → ¬ S3 k
  d23 : ∀ k, S2 k → ¬ S3 k
  b : base ≤ w.heap.size
section
variable {tb ti tp base m1 m2 m3 : Nat} {S1 S2 S3 : Nat → Prop} {w w' : World} {va ve vp : Value} {la : List UInt8} {le : List Nat} {ps : List PCE}
theorem BK3.nil (tb ti tp base m : Nat) (w : World) (hb : base ≤ w.heap.size) (hm : m ≤ w.heap.size) : BK3 tb ti tp base m m m (fun _ => False) (fun _ => False) (fun _ => False) w (.slice none 0 0) (.slice none 0 0) (.slice none 0 0) [] [] [] :=
  ⟨Mine.nil _ _ _ _ _ _, Mine.nil _ _ _ _ _ _, ⟨[], Mine.nil _ _ _ _ _ _, trivial⟩, fun _ h => h.elim, fun _ h => h.elim, fun _ h => h.elim, hm, hm, hm, fun _ h => h.elim, fun _ h => h.elim, fun _ h => h.elim, hb⟩
theorem BK3.keep (h : BK3 tb ti tp base m1 m2 m3 S1 S2 S3 w va ve vp la le ps) (x : Keep w w') : BK3 tb ti tp base m1 m2 m3 S1 S2 S3 w' va ve vp la le ps := by
  obtain ⟨a, e, ⟨vs, p, q⟩, s1, s2, s3, l1, l2, l3, d12, d13, d23, b⟩ := h
  have hz := x.size
  exact ⟨a.keep x, e.keep x, ⟨vs, p.keep x, q.move (fun _ h => h) fun k _ hk => x.keep k hk id⟩, s1, s2, s3, by omega, by omega, by omega, d12, d13, d23, by omega⟩
theorem BK3.ext (h : BK3 tb ti tp base m1 m2 m3 S1 S2 S3 w va ve vp la le ps) {T : Nat → Prop} (x : Ext T w w') (hT : ∀ k, T k → base ≤ k ∧ m1 ≤ k ∧ m2 ≤ k ∧ m3 ≤ k) : BK3 tb ti tp base m1 m2 m3 S1 S2 S3 w' va ve vp la le ps := by
  obtain ⟨a, e, ⟨vs, p, q⟩, s1, s2, s3, l1, l2, l3, d12, d13, d23, b⟩ := h
  have hz := x.size
  refine ⟨a.ext x (by intro k h1 h2; omega) ?_, e.ext x (by intro k h1 h2; omega) ?_, ⟨vs, p.ext x (by intro k h1 h2; omega) ?_, q.move (fun _ h => h) fun k hG hk => x.keep k hk ?_⟩, s1, s2, s3, by omega, by omega, by omega, d12, d13, d23, by omega⟩
  · intro k h1 h2; have := s1 k h1; have := hT k h2; omega
  · intro k h1 h2; have := s2 k h1; have := hT k h2; omega
  · intro k h1 h2; have := s3 k h1; have := hT k h2; omega
  · intro h2; have := hT k h2; have : k < base := hG; omega
/-- At a loop's head. -/
theorem BK3.all (h : BK3 tb ti tp base m1 m2 m3 S1 S2 S3 w va ve vp la le ps) : BK3 tb ti tp base w.heap.size w.heap.size w.heap.size S1 S2 S3 w va ve vp la le ps := by
  obtain ⟨a, e, p, s1, s2, s3, l1, l2, l3, d12, d13, d23, b⟩ := h
  exact ⟨a, e, p, fun k h => by have := s1 k h; omega, fun k h => by have := s2 k h; omega, fun k h => by have := s3 k h; omega, Nat.le_refl _, Nat.le_refl _, Nat.le_refl _, d12, d13, d23, b⟩
theorem BK3.rd (h : BK3 tb ti tp base m1 m2 m3 S1 S2 S3 w va ve vp la le ps) : ∃ A1 c1 A2 c2 A3 c3 vs, va = .slice A1 la.length c1 ∧ ve = .slice A2 le.length c2 ∧ vp = .slice A3 ps.length c3 ∧ la.length ≤ c1 ∧ le.length ≤ c2 ∧ ps.length ≤ c3 ∧
    Sl KB 0 w.heap.size w A1 la.length la ∧ Sl KNt 0 w.heap.size w A2 le.length le ∧ Sl (KRN 2) 0 w.heap.size w A3 ps.length vs ∧ PData (fun k => k < base) w vs ps := by
  obtain ⟨a, e, ⟨vs, p, q⟩, _⟩ := h
  obtain ⟨A1, c1, e1, g1, r1⟩ := a.slF KB_flat 0 (fun _ _ => Nat.zero_le _)
  obtain ⟨A2, c2, e2, g2, r2⟩ := e.slF KNt_flat 0 (fun _ _ => Nat.zero_le _)
  obtain ⟨A3, c3, e3, g3, r3⟩ := p.slF (KRN_flat 2) 0 (fun _ _ => Nat.zero_le _)
  have hl := q.len
  rw [hl] at e3 g3 r3
  exact ⟨A1, c1, A2, c2, A3, c3, vs, e1, e2, e3, g1, g2, g3, r1, r2, r3, q⟩
variable {P : Program} {ρ : Operand → Value} {dst : Option Tmp} {ty : TypeId} {pos : String} {aft : Array Edge} {g : Option (Nat × Bool)} {T : TypeId} {s x : Operand} {A : Option Addr} {n c lo hi bytes : Nat}
theorem BK3.appA {ys : List UInt8} (h : BK3 tb ti tp base m1 m2 m3 S1 S2 S3 w va ve vp la le ps) (hS : Sl KB lo hi w A n ys) (hT : P.underlying T = some (.slice tb)) (hI : ElemInfo P tb 1 bytes) (hs : ρ s = va) (hx : ρ x = .slice A n c) (hmax : (la.length + ys.length) * bytes ≤ 140737488355328) :
    DoesE P ⟨dst, .call ⟨.builtin .append, #[s, x], #[T, T]⟩, ty, pos, aft, g⟩ ρ w fun v' w' => ∃ A' c' S', v' = .slice A' (la ++ ys).length c' ∧ BK3 tb ti tp base w'.heap.size m2 m3 S' S2 S3 w' v' ve vp (la ++ ys) le ps ∧ Ext (fun k => base ≤ k ∧ k < m1) w w' := by
  obtain ⟨a, e, ⟨vs, p, q⟩, s1, s2, s3, l1, l2, l3, d12, d13, d23, b⟩ := h
  refine (appRow (K := KB) KB_flat hT hI hs hx a (fun k hk => by have := s1 k hk; omega) hS hmax).mono fun v' w' ⟨h1, h2⟩ => ?_
  obtain ⟨A', c', e1, _⟩ := h1.slice
  have hz := h2.size
  refine ⟨A', c', _, e1, ⟨h1, e.ext h2 (by intro k h1 h2; omega) (fun k h3 h4 => d12 k h4 h3), ⟨vs, p.ext h2 (by intro k h1 h2; omega) (fun k h3 h4 => d13 k h4 h3), q.move (fun _ h => h) fun k hG hk => h2.keep k hk fun h => ?_⟩, ?_, s2, s3, Nat.le_refl _, by omega, by omega, ?_, ?_, d23, by omega⟩, h2.mono fun k _ hk => s1 k hk⟩
  · have := s1 k h; have : k < base := hG; omega
  · rintro k (h | ⟨h, h'⟩)
    · have := s1 k h; omega
    · omega
  · rintro k (h | ⟨h, h'⟩) h3
    · exact d12 k h h3
    · have := s2 k h3; omega
  · rintro k (h | ⟨h, h'⟩) h3
    · exact d13 k h h3
    · have := s3 k h3; omega
theorem BK3.appN {ys : List Nat} (h : BK3 tb ti tp base m1 m2 m3 S1 S2 S3 w va ve vp la le ps) (hS : Sl KNt lo hi w A n ys) (hT : P.underlying T = some (.slice ti)) (hI : ElemInfo P ti 1 bytes) (hs : ρ s = ve) (hx : ρ x = .slice A n c) (hmax : (le.length + ys.length) * bytes ≤ 140737488355328) :
    DoesE P ⟨dst, .call ⟨.builtin .append, #[s, x], #[T, T]⟩, ty, pos, aft, g⟩ ρ w fun v' w' => ∃ A' c' S', v' = .slice A' (le ++ ys).length c' ∧ BK3 tb ti tp base m1 w'.heap.size m3 S1 S' S3 w' va v' vp la (le ++ ys) ps ∧ Ext (fun k => base ≤ k ∧ k < m2) w w' := by
  obtain ⟨a, e, ⟨vs, p, q⟩, s1, s2, s3, l1, l2, l3, d12, d13, d23, b⟩ := h
  refine (appRow (K := KNt) KNt_flat hT hI hs hx e (fun k hk => by have := s2 k hk; omega) hS hmax).mono fun v' w' ⟨h1, h2⟩ => ?_
  obtain ⟨A', c', e1, _⟩ := h1.slice
  have hz := h2.size
  refine ⟨A', c', _, e1, ⟨a.ext h2 (by intro k h1 h2; omega) (fun k h3 h4 => d12 k h3 h4), h1, ⟨vs, p.ext h2 (by intro k h1 h2; omega) (fun k h3 h4 => d23 k h4 h3), q.move (fun _ h => h) fun k hG hk => h2.keep k hk fun h => ?_⟩, s1, ?_, s3, by omega, Nat.le_refl _, by omega, ?_, d13, ?_, by omega⟩, h2.mono fun k _ hk => s2 k hk⟩
  · have := s2 k h; have : k < base := hG; omega
  · rintro k (h | ⟨h, h'⟩)
    · have := s2 k h; omega
    · omega
  · rintro k h3 (h | ⟨h, h'⟩)
    · exact d12 k h3 h
    · have := s1 k h3; omega
  · rintro k (h | ⟨h, h'⟩) h3
    · exact d23 k h h3
    · have := s3 k h3; omega
theorem BK3.appP {k : UInt8} {bs : List UInt8} {A2 : Option Addr} {n2 c2 lo2 hi2 : Nat} (h : BK3 tb ti tp base m1 m2 m3 S1 S2 S3 w va ve vp la le ps) (hS : Sl (KRN 2) lo hi w A n [.agg #[.int .u8 (k.toNat : Int), .slice A2 n2 c2]]) (hnc : n2 ≤ c2) (hB : hi2 ≤ base) (hD : Sl KB lo2 hi2 w A2 n2 bs) (hT : P.underlying T = some (.slice tp)) (hI : ElemInfo P tp 2 bytes) (hs : ρ s = vp) (hx : ρ x = .slice A n c) (hmax : (ps.length + 1) * bytes ≤ 140737488355328) :
    DoesE P ⟨dst, .call ⟨.builtin .append, #[s, x], #[T, T]⟩, ty, pos, aft, g⟩ ρ w fun v' w' => ∃ A' c' S', v' = .slice A' (ps.length + 1) c' ∧ BK3 tb ti tp base m1 m2 w'.heap.size S1 S2 S' w' va ve v' la le (ps ++ [(k, bs)]) ∧ Ext (fun k => base ≤ k ∧ k < m3) w w' := by
  obtain ⟨a, e, ⟨vs, p, q⟩, s1, s2, s3, l1, l2, l3, d12, d13, d23, b⟩ := h
  have hl := q.len
  refine (appRow (K := KRN 2) (KRN_flat 2) hT hI hs hx p (fun k hk => by have := s3 k hk; omega) hS (by rw [hl]; exact hmax)).mono fun v' w' ⟨h1, h2⟩ => ?_
  obtain ⟨A', c', e1, _⟩ := h1.slice
  have hz := h2.size
  rw [List.length_append, hl] at e1
  refine ⟨A', c', _, e1, ⟨a.ext h2 (by intro k h1 h2; omega) (fun k h3 h4 => d13 k h3 h4), e.ext h2 (by intro k h1 h2; omega) (fun k h3 h4 => d23 k h3 h4), ⟨_, h1, ?_⟩, s1, s2, ?_, by omega, by omega, Nat.le_refl _, d12, ?_, ?_, by omega⟩, h2.mono fun k _ hk => s3 k hk⟩
  · exact (q.app (us := [.agg #[.int .u8 (k.toNat : Int), .slice A2 n2 c2]]) (qs := [(k, bs)]) ⟨⟨A2, n2, c2, lo2, hi2, rfl, hnc, fun k _ h => by omega, hD⟩, trivial⟩).move (fun _ h => h) fun k hG hk => h2.keep k hk fun h => by have := s3 k h; have : k < base := hG; omega
  · rintro k (h | ⟨h, h'⟩)
    · have := s3 k h; omega
    · omega
  · rintro k h3 (h | ⟨h, h'⟩)
    · exact d13 k h3 h
    · have := s1 k h3; omega
  · rintro k h3 (h | ⟨h, h'⟩)
    · exact d23 k h3 h
    · have := s2 k h3; omega
end
end Go.Proofs.Ytgfficbkajcdpaa.X

namespace Go.Proofs.Ytgfficbkajcdpaa.X
open Go
set_option linter.unusedVariables false
set_option linter.unusedSimpArgs false

theorem reps_zeroN (lo hi : Nat) (w : World) : ∀ n, Reps KNt lo hi w (List.replicate n 0) (List.replicate n (.int .i64 0))
  | 0 => rfl
  | n + 1 => ⟨[.int .i64 0], _, rfl, KNt_R lo hi w 0, reps_zeroN lo hi w n⟩
theorem madeCells_listN (n : Nat) : (madeCells #[.int .i64 0] (n * 1)).toList = List.replicate n (.int .i64 0) := by
  apply List.ext_getElem
  · simp [madeCells]
  · intro i h1 h2
    simp [madeCells]
    rw [show i % 1 = 0 by omega]; rfl
structure IntInfo (P : Program) (e : Nat) : Prop where
  ex : ∃ i, P.info? e = some i ∧ i.zero = some (.int .i64 0) ∧ i.size = 1 ∧ i.bytes = 8
theorem IntInfo.of {P : Program} {e : Nat} (h : (P.info? e).map (fun i => (i.zero, i.size, i.bytes)) = some (some (.int .i64 0), 1, 8)) : IntInfo P e := by
  obtain ⟨i, hi, hq⟩ := Option.map_eq_some_iff.1 h
  simp only [Prod.mk.injEq] at hq
  exact ⟨i, hi, hq.1, hq.2.1, hq.2.2⟩
theorem reps_setN {lo hi : Nat} {w : World} {y : Nat} : ∀ {xs : List Nat} {cs : List Value} (j : Nat), Reps KNt lo hi w xs cs → Reps KNt lo hi w (xs.set j y) (cs.set j (.int .i64 (y : Int)))
  | [], cs, j, h => by
    have : cs = [] := h
    subst this; exact rfl
  | x :: xs, cs, j, ⟨a, b, e, h1, h2⟩ => by
    have ha : a = [.int .i64 (x : Int)] := h1.1
    subst ha
    subst e
    cases j with
    | zero => exact ⟨[.int .i64 (y : Int)], b, rfl, KNt_R lo hi w y, h2⟩
    | succ j => exact ⟨[.int .i64 (x : Int)], _, rfl, h1, reps_setN j h2⟩
section
variable {P : Program} {ρ : Operand → Value} {w : World} {dst : Option Tmp} {ty : TypeId} {pos : String} {aft : Array Edge} {g : Option (Nat × Bool)}
/-- 'make([]int, n)'. -/
theorem mkN {T e : TypeId} {S : Nat → Prop} {x y : Operand} {kx ky : IntKind} {n : Nat} (hT : P.underlying T = some (.slice e)) (hI : IntInfo P e) (hx : ρ x = .int kx (n : Int)) (hy : ρ y = .int ky (n : Int)) (hn : n ≤ 1000000) (hS : S w.heap.size) :
    DoesE P ⟨dst, .makeSlice T x y, ty, pos, aft, g⟩ ρ w fun v w' => v = .slice (some ⟨w.heap.size, 0, none⟩) n n ∧ Sl KNt 0 w'.heap.size w' (some ⟨w.heap.size, 0, none⟩) n (List.replicate n 0) ∧ Mine KNt e S 0 0 w' v (List.replicate n 0) ∧ Keep w w' ∧ w.heap.size < w'.heap.size := by
  obtain ⟨i, h1, h2, h3, h4⟩ := hI
  obtain ⟨w', q1, q2, q3⟩ := run_make_full (P := P) w 0 T e i (.int .i64 0) 1 hT h1 h2 h3 kx ky n (by rw [h4]; omega) (by simp only [maxLen]; omega) (Nat.zero_le _)
  have hz : (Value.int .i64 0).cells = #[.int .i64 0] := rfl
  rw [hz, madeCells_listN] at q2
  have hM : Mine KNt e S 0 0 w' (.slice (some ⟨w.heap.size, 0, none⟩) n n) (List.replicate n 0) := ⟨some w.heap.size, ⟨⟨_, reps_zeroN 0 0 w' n, by rw [List.length_replicate]; exact q2⟩, rfl⟩, fun k hk => by cases hk; exact hS⟩
  have hlt : w.heap.size < w'.heap.size := Own.lt (K := KNt) (e := e) (lo := 0) (hi := 0) (v := .slice (some ⟨w.heap.size, 0, none⟩) n n) (xs := List.replicate n 0) ⟨⟨_, reps_zeroN 0 0 w' n, by rw [List.length_replicate]; exact q2⟩, rfl⟩ _ rfl
  have hSl : Sl KNt 0 w'.heap.size w' (some ⟨w.heap.size, 0, none⟩) n (List.replicate n 0) := by
    obtain ⟨A, c, e1, _, hs⟩ := hM.slF KNt_flat 0 (fun _ _ => Nat.zero_le _)
    injection e1 with e2 e3 e4
    rw [← e2, ← e3] at hs
    exact hs
  refine (does_run (w' := w') rfl (by simp only [execOp, hx, hy]; simp [q1])).e ⟨rfl, hSl, hM, ⟨q3.os, q3.tape, q3.output, q3.size, fun k hk _ => q3.block k hk (by simp)⟩, hlt⟩
theorem storeMN {T e : TypeId} {S : Nat → Prop} {a x : Operand} {A : Option Addr} {n c j : Nat} {xs : List Nat} {y : Nat} (hs : ∀ w, (sizeOf T).run P w = .ok 1 w) (hM : Mine KNt e S 0 0 w (.slice A n c) xs) (hj : j < xs.length) (ha : ρ a = .pointer (some ((A.getD default).add (j * 1)))) (hx : ρ x = .int .i64 (y : Int)) :
    DoesE P ⟨none, .store T a x, ty, pos, aft, g⟩ ρ w fun _ w' => Mine KNt e S 0 0 w' (.slice A n c) (xs.set j y) ∧ Ext S w w' ∧ w'.heap.size = w.heap.size := by
  obtain ⟨b, ⟨⟨cs, hr, hrow⟩, hbb⟩, hb⟩ := hM
  have hl : cs.length = xs.length * 1 := hrow.1
  rcases hrow.2 with ⟨_, hn⟩ | ⟨g', cap, cur, he, hbg, hg, hnc, hcm, hcs, htake⟩
  · omega
  · injection he with e1 e2 e3
    subst e1
    have hcs : cur.size = cap * 1 := hcs
    have hi : j < cur.size := by omega
    rw [show (Option.getD (some (⟨g', 0, none⟩ : Addr)) default).add (j * 1) = ⟨g', j, none⟩ by rw [show j * 1 = j by omega]; show (⟨g', 0, none⟩ : Addr).add j = _; rw [add_mk, Nat.zero_add]] at ha
    have hc : w.cell? ⟨g', j, none⟩ = some (cur[j]'hi) := by rw [cell_of_row w g' j cur e (0, 0) hg]; exact Array.getElem?_eq_getElem hi
    have hf : w.frozen? ⟨g', j, none⟩ = false := frozen_of_row w g' j cur e hg
    have hst : (store ⟨g', j, none⟩ (.int .i64 (y : Int))).run P w = .ok () (w.setCell ⟨g', j, none⟩ (.int .i64 (y : Int))) := by simp [store, Sem.run, hc, hf]
    have hSg : S g' := hb g' (by rw [← hbb]; rfl)
    refine (does_skip (w' := w.setCell ⟨g', j, none⟩ (.int .i64 (y : Int))) rfl ?_).e ⟨⟨some g', ⟨⟨cs.set j (.int .i64 (y : Int)), reps_setN j (hr.flat KNt_flat), ?_⟩, rfl⟩, fun k hk => by cases hk; exact hSg⟩, (Ext.setCell w ⟨g', j, none⟩ _).mono (fun k _ hk => by rw [show k = g' from hk]; exact hSg), by simp⟩
    · simp only [execOp, ha, hx, Instr.storeAt, Instr.sureAddr, storeVar, Value.cells]
      simp [hs, storeCells, add_zero, hst]
    · refine ⟨by rw [List.length_set, List.length_set]; exact hl, .inr ⟨g', cap, cur.set! j (.int .i64 (y : Int)), ?_, hbg, ?_, by rw [List.length_set]; exact hnc, hcm, by rw [show KNt.sz = 1 from rfl]; simp [hcs], ?_⟩⟩
      · rw [List.length_set, e2, e3]
      · have := heap_setCell_same w g' j cur e (.int .i64 (y : Int)) hg
        simpa using this
      · rw [List.length_set]
        have : (cur.set! j (Value.int .i64 (y : Int))).toList = cur.toList.set j (.int .i64 (y : Int)) := by simp
        rw [this, List.take_set, htake]
end
end Go.Proofs.Ytgfficbkajcdpaa.X

namespace Go.Proofs.Ytgfficbkajcdpaa
open Go Go.Proofs.Ytgfficbkajcdpaa.X
set_option linter.unusedVariables false
set_option linter.unusedSimpArgs false
def LL (ls : List (List TH)) : Nat → List TH := fun j => ls.getD j []
def DL (ls : List (List TH)) (ats : List Nat) : Nat → List TH := fun j => (ls.getD j []).drop (ats.getD j 0)
theorem DL_at {ls : List (List TH)} {ats : List Nat} {j a : Nat} {l : List TH} (h1 : ls[j]? = some l) (h2 : ats[j]? = some a) : DL ls ats j = l.drop a := by
  simp [DL, h1, h2]
theorem DL_zero (ls : List (List TH)) (n : Nat) : DL ls (List.replicate n 0) = LL ls := by
  funext j
  have : (List.replicate n 0).getD j 0 = 0 := by
    rw [List.getD_eq_getElem?_getD, List.getElem?_replicate]; split <;> rfl
  rw [DL, this, List.drop_zero]; rfl
theorem DL_set {ls : List (List TH)} {ats : List Nat} {b ab : Nat} (h : ats[b]? = some ab) : DL ls (ats.set b (ab + 1)) = updL (DL ls ats) b := by
  funext j
  obtain ⟨hb, hb2⟩ := List.getElem?_eq_some_iff.1 h
  by_cases e : j = b
  · subst e
    simp [DL, updL, hb, hb2]
  · simp [DL, updL, e, List.getElem?_set, show ¬ b = j from fun h => e h.symm]
def bI : PK → Int
  | none => -1
  | some (i, _) => (i : Int)
theorem bI_lt {o : PK} (h : bI o < 0) : o = none := by
  cases o with
  | none => rfl
  | some q => obtain ⟨i, x⟩ := q; simp only [bI] at h; omega
theorem bI_ge {o : PK} (h : ¬ bI o < 0) : ∃ i x, o = some (i, x) := by
  cases o with
  | none => exact absurd (by decide) h
  | some q => exact ⟨q.1, q.2, rfl⟩
theorem mine_at {e b : Nat} {A : Option Addr} {n c : Nat} {xs : List Nat} {w : World} (h : Mine KNt e (fun k => k = b) 0 0 w (.slice A n c) xs) : Sl KNt b (b + 1) w A n xs := by
  obtain ⟨A', c', e1, _, hs⟩ := (h.flat KNt_flat (lo' := b) (hi' := b + 1)).sl (fun k hk hs => by have hs : k = b := hs; omega)
  injection e1 with e1 e2 e3
  rw [e1, e2]; exact hs
theorem head_drop {l : List TH} {a : Nat} {y : TH} {t : List TH} (h : l.drop a = y :: t) : l[a]? = some y := by
  have := congrArg (fun l => l[0]?) h
  simpa using this
theorem INF : IntInfo Try.prog 3 := IntInfo.of (by kernel_rfl)
-- f25 "pedigree/pedigreeref09.Merge" params [22] results [24] -> [(ResultVar.tmp 2)] nfree 0 ntmps 75 names [
set_option maxHeartbeats 4000000 in
set_option maxRecDepth 100000 in
theorem RMerge_c {lo hi lo2 hi2 : Nat} {A : Option Addr} {n c : Nat} {vs : List Value} {ls : List (List TH)} (w : World) (hs : Sl KR1 lo hi w A n vs) (hr : SlRows KTh lo2 hi2 w vs ls) (hhi : hi ≤ w.heap.size) (hhi2 : hi2 ≤ w.heap.size) (hn : n ≤ 1000) (htl : totL (LL ls) n ≤ 1000000) : Ret Try.prog 25 #[.slice A n c] w fun r w' => Fresh KTh 29 w w' r (mgC n (LL ls)) := by
  have hl := hs.len
  have hrl := hr.len
  refine X.enter Try.func25 rfl Try.ntmps25 rfl ?_
  refine X.seq ?_
  refine X.region ?_
  refine X.opw X.wN rfl (X.assign rfl) ?_
  refine X.opsEnd ?_
  refine X.seq ?_
  refine X.region ?_
  refine X.opw X.wN rfl (X.move (v := .slice _ _ _) rfl) ?_
  refine X.opw X.wN rfl (X.lenSl Try.underlying22 rfl) ?_
  refine X.opE X.wN rfl (X.mkN (n := n) (S := fun k => k = w.heap.size) Try.underlying54 INF rfl rfl (by omega) rfl) ?_
  rintro _ w1 ⟨rfl, hs1, hM1, hk1, hz1⟩
  refine X.opw X.wN rfl (X.assign (v := .slice _ _ _) rfl) ?_
  refine X.opsEnd ?_
  refine X.seq ?_
  refine X.region ?_
  refine X.opw X.wN rfl (X.assign rfl) ?_
  refine X.opsEnd ?_
  refine X.block ?_
  -- LOOP live: 0=l, 3=heads, 4=out*
  refine X.loopL (σ := List Nat × Value × List TH) (fun s => [(0, .slice A n c), (3, .slice (some ⟨w.heap.size, 0, none⟩) n n), (4, s.2.1)]) (fun s w' => s.1.length = n ∧ s.2.2.length + totL (DL ls s.1) n = totL (LL ls) n ∧ s.2.2 ++ mgC n (DL ls s.1) = mgC n (LL ls) ∧ Mine KNt 3 (fun k => k = w.heap.size) 0 0 w' (.slice (some ⟨w.heap.size, 0, none⟩) n n) s.1 ∧ Mine KTh 29 (fun k => w.heap.size < k) 0 0 w' s.2.1 s.2.2 ∧ Keep w w' ∧ w.heap.size < w'.heap.size) (fun s => totL (DL ls s.1) n) (List.replicate n 0, _, []) ⟨rfl, rfl, rfl, trivial⟩ ⟨List.length_replicate, by rw [DL_zero]; simp, by rw [DL_zero]; rfl, hM1, Mine.nil _ _ _ _ _ _, hk1, by omega⟩ ?_
  rintro ⟨ats, v, out⟩ b0 wl ⟨hal, htot, ho, hMa, hM0, hk, hwl⟩ hback
  dsimp only
  simp only at hal htot ho hMa hM0
  have hk' := hk.size
  have hsa := mine_at hMa
  refine X.block ?_
  refine X.seq ?_
  refine X.region ?_
  refine X.opw X.wN rfl (X.assign rfl) ?_
  refine X.opsEnd ?_
  refine X.seq ?_
  refine X.seq ?_
  refine X.region ?_
  refine X.opw X.wN rfl (X.assign rfl) ?_
  refine X.opsEnd ?_
  refine X.block ?_
  -- LOOP live: 0=l, 3=heads, 4=out, 5=best*, 6=i*
  refine X.loopL (σ := Nat) (fun s => [(0, .slice A n c), (3, .slice (some ⟨w.heap.size, 0, none⟩) n n), (4, v), (5, .int .i64 (bI (pk (DL ls ats) s))), (6, .int .i64 (s : Int))]) (fun s w' => s ≤ n ∧ Keep wl w' ∧ Keep w w') (fun s => n - s) 0 ⟨rfl, rfl, rfl, rfl, rfl, trivial⟩ ⟨Nat.zero_le _, Keep.refl _, hk⟩ ?_
  rintro i b2 wm ⟨hi, hwm, hkm⟩ hback2
  have hkm' := hkm.size
  have hwm' := hwm.size
  refine X.seq ?_
  refine X.seq ?_
  refine X.region ?_
  refine X.opw X.wN rfl (X.move (v := .int .i64 _) rfl) ?_
  refine X.opw X.wN rfl (X.move (v := .slice _ _ _) rfl) ?_
  refine X.opw X.wN rfl (X.lenSl Try.underlying22 rfl) ?_
  refine X.opP X.wN rfl rfl (X.lss rfl rfl) (fun h13 => ?_) (fun h13 => ?_)
  · obtain ⟨ai, hai⟩ : ∃ ai, ats[i]? = some ai := ⟨ats[i]'(by omega), List.getElem?_eq_getElem (by omega)⟩
    obtain ⟨vi, hvi⟩ : ∃ vi, vs[i]? = some vi := ⟨vs[i]'(by omega), List.getElem?_eq_getElem (by omega)⟩
    obtain ⟨li, Ai, ni, ci, hli, rfl, hnci, hsi⟩ := hr.get hvi
    have hDi := DL_at hli hai
    have hlil := hsi.len
    have hlib := hsi.bound
    refine X.opsEnd ?_
    refine X.condT rfl ?_
    refine X.skip ?_
    refine X.seq ?_
    refine X.block ?_
    refine X.seq ?_
    refine X.seq ?_
    refine X.regionD (fun k => w.heap.size < k) 10 (by kernel_rfl) (by kernel_rfl) (fun w2 hk2 hz2 => ?_)
    refine X.dTake 0 rfl (by kernel_rfl) (by kernel_rfl) (by kernel_rfl) (X.dwN rfl) (fun w' hk' => X.move (v := .slice _ _ _) rfl) ?_
    refine X.dTake 1 rfl (by kernel_rfl) (by kernel_rfl) (by kernel_rfl) (X.dwN rfl) (fun w' hk' => X.move (v := .int .i64 _) rfl) ?_
    refine X.dTake 2 rfl (by kernel_rfl) (by kernel_rfl) (by kernel_rfl) (X.dwN rfl) (fun w' hk' => X.idxS (((hsa.keep hwm).keep hk2).ext hk' (by intros; (try simp only []); omega)) Try.underlying54 Try.sizeOf3 rfl rfl ⟨by omega, by omega⟩) ?_
    refine X.dTake 3 rfl (by kernel_rfl) (by kernel_rfl) (by kernel_rfl) (X.dwN rfl) (fun w' hk' => X.loadS Try.isAgg3 (((hsa.keep hwm).keep hk2).ext hk' (by intros; (try simp only []); omega)) hai rfl (fun _ h => by rw [h.1]; rfl)) ?_
    refine X.dTake 4 rfl (by kernel_rfl) (by kernel_rfl) (by kernel_rfl) (X.dwN rfl) (fun w' hk' => X.move (v := .slice _ _ _) rfl) ?_
    refine X.dTake 5 rfl (by kernel_rfl) (by kernel_rfl) (by kernel_rfl) (X.dwN rfl) (fun w' hk' => X.move (v := .int .i64 _) rfl) ?_
    refine X.dTake 6 rfl (by kernel_rfl) (by kernel_rfl) (by kernel_rfl) (X.dwN rfl) (fun w' hk' => X.idxS (hs.keep ((hkm.trans hk2).step hk' (by intros; (try simp only [] at *); omega))) Try.underlying22 Try.sizeOf24 rfl rfl ⟨by omega, by omega⟩) ?_
    refine X.dTake 7 rfl (by kernel_rfl) (by kernel_rfl) (by kernel_rfl) (X.dwN rfl) (fun w' hk' => X.loadS Try.isAgg24 (hs.keep ((hkm.trans hk2).step hk' (by intros; (try simp only [] at *); omega))) hvi rfl (fun _ h => by rw [h.1]; rfl)) ?_
    refine X.dTake 8 rfl (by kernel_rfl) (by kernel_rfl) (by kernel_rfl) (X.dwN rfl) (fun w' hk' => X.lenSl Try.underlying24 rfl) ?_
    refine X.dTake 9 rfl (by kernel_rfl) (by kernel_rfl) (by kernel_rfl) (X.dwN rfl) (fun w' hk' => X.geq rfl rfl) ?_
    refine X.dEnd (by kernel_rfl) ?_
    refine X.condB rfl (fun hc => ?_) (fun hc => ?_)
    · have hDn : DL ls ats i = [] := by rw [hDi, List.drop_of_length_le (by simp at hc; omega)]
      refine X.exit rfl ?_
      refine X.region ?_
      refine X.opw X.wN rfl (X.move (v := .int .i64 _) rfl) ?_
      refine X.opw X.wN rfl (X.add rfl rfl (X.w_i64 (by omega))) ?_
      refine X.opw X.wN rfl (X.assign (v := .int .i64 _) rfl) ?_
      refine X.opsEnd ?_
      have hpk := pk_nil hDn
      refine hback2 (i + 1) _ _ ⟨(by first | rfl | (rw [hpk]; rfl)), (by first | rfl | (rw [hpk]; rfl)), (by first | rfl | (rw [hpk]; rfl)), (by first | rfl | (rw [hpk]; rfl)), (by first | rfl | (rw [hpk]; rfl)), trivial⟩ ⟨by omega, (hwm.trans hk2), (hkm.trans hk2)⟩ (by omega)
    · obtain ⟨x, hx⟩ := get2 ai hlil (by simp at hc; omega)
      have hDx : DL ls ats i = x :: li.drop (ai + 1) := by rw [hDi, drop_at hx]
      have hailt := (List.getElem?_eq_some_iff.1 hx).1
      refine X.skip ?_
      refine X.seq ?_
      refine X.regionD (fun k => w.heap.size < k) 26 (by kernel_rfl) (by kernel_rfl) (fun w3 hk3 hz3 => ?_)
      refine X.dTake 0 rfl (by kernel_rfl) (by kernel_rfl) (by kernel_rfl) (X.dwN rfl) (fun w' hk' => X.move (v := .int .i64 _) rfl) ?_
      refine X.dTake 1 rfl (by kernel_rfl) (by kernel_rfl) (by kernel_rfl) (X.dwN rfl) (fun w' hk' => X.lss rfl rfl) ?_
      refine X.dTake 2 rfl (by kernel_rfl) (by kernel_rfl) (by kernel_rfl) (X.dwN rfl) (fun w' hk' => X.move (v := .bool _) rfl) ?_
      refine X.dFork 28 rfl (fun h28 => ?_) (fun h28 => ?_)
      · have hob : pk (DL ls ats) i = none := bI_lt (of_decide_eq_true h28)
        refine X.dTakeS 3 rfl (by kernel_rfl) (by kernel_rfl) (by kernel_rfl) rfl rfl rfl rfl ?_
        refine X.dTakeS 4 rfl (by kernel_rfl) (by kernel_rfl) (by kernel_rfl) rfl rfl rfl rfl ?_
        refine X.dTakeS 5 rfl (by kernel_rfl) (by kernel_rfl) (by kernel_rfl) rfl rfl rfl rfl ?_
        refine X.dTakeS 6 rfl (by kernel_rfl) (by kernel_rfl) (by kernel_rfl) rfl rfl rfl rfl ?_
        refine X.dTakeS 7 rfl (by kernel_rfl) (by kernel_rfl) (by kernel_rfl) rfl rfl rfl rfl ?_
        refine X.dTakeS 8 rfl (by kernel_rfl) (by kernel_rfl) (by kernel_rfl) rfl rfl rfl rfl ?_
        refine X.dTakeS 9 rfl (by kernel_rfl) (by kernel_rfl) (by kernel_rfl) rfl rfl rfl rfl ?_
        refine X.dTakeS 10 rfl (by kernel_rfl) (by kernel_rfl) (by kernel_rfl) rfl rfl rfl rfl ?_
        refine X.dTakeS 11 rfl (by kernel_rfl) (by kernel_rfl) (by kernel_rfl) rfl rfl rfl rfl ?_
        refine X.dTakeS 12 rfl (by kernel_rfl) (by kernel_rfl) (by kernel_rfl) rfl rfl rfl rfl ?_
        refine X.dTakeS 13 rfl (by kernel_rfl) (by kernel_rfl) (by kernel_rfl) rfl rfl rfl rfl ?_
        refine X.dTakeS 14 rfl (by kernel_rfl) (by kernel_rfl) (by kernel_rfl) rfl rfl rfl rfl ?_
        refine X.dTakeS 15 rfl (by kernel_rfl) (by kernel_rfl) (by kernel_rfl) rfl rfl rfl rfl ?_
        refine X.dTakeS 16 rfl (by kernel_rfl) (by kernel_rfl) (by kernel_rfl) rfl rfl rfl rfl ?_
        refine X.dTakeS 17 rfl (by kernel_rfl) (by kernel_rfl) (by kernel_rfl) rfl rfl rfl rfl ?_
        refine X.dSkip (i := 18) (by kernel_rfl) rfl rfl rfl rfl rfl ?_
        refine X.dSkip (i := 19) (by kernel_rfl) rfl rfl rfl rfl rfl ?_
        refine X.dSkip (i := 20) (by kernel_rfl) rfl rfl rfl rfl rfl ?_
        refine X.dSkip (i := 21) (by kernel_rfl) rfl rfl rfl rfl rfl ?_
        refine X.dSkip (i := 22) (by kernel_rfl) rfl rfl rfl rfl rfl ?_
        refine X.dSkip (i := 23) (by kernel_rfl) rfl rfl rfl rfl rfl ?_
        refine X.dSkip (i := 24) (by kernel_rfl) rfl rfl rfl rfl rfl ?_
        refine X.dTake 25 rfl (by kernel_rfl) (by kernel_rfl) (by kernel_rfl) (X.dwN rfl) (fun w' hk' => X.pickT (v := .bool true) rfl rfl) ?_
        refine X.dEnd (by kernel_rfl) ?_
        refine X.condT rfl ?_
        refine X.region ?_
        refine X.opw X.wN rfl (X.move (v := .int .i64 _) rfl) ?_
        refine X.opw X.wN rfl (X.assign (v := .int .i64 _) rfl) ?_
        refine X.opsEnd ?_
        refine X.inBlock ?_
        refine X.region ?_
        refine X.opw X.wN rfl (X.move (v := .int .i64 _) rfl) ?_
        refine X.opw X.wN rfl (X.add rfl rfl (X.w_i64 (by omega))) ?_
        refine X.opw X.wN rfl (X.assign (v := .int .i64 _) rfl) ?_
        refine X.opsEnd ?_
        have hpk := pk_new hDx (.inl hob)
        refine hback2 (i + 1) _ _ ⟨(by first | rfl | (rw [hpk]; rfl)), (by first | rfl | (rw [hpk]; rfl)), (by first | rfl | (rw [hpk]; rfl)), (by first | rfl | (rw [hpk]; rfl)), (by first | rfl | (rw [hpk]; rfl)), trivial⟩ ⟨by omega, ((hwm.trans hk2).trans hk3), ((hkm.trans hk2).trans hk3)⟩ (by omega)
      · obtain ⟨b, y, hob⟩ := bI_ge (of_decide_eq_false h28)
        obtain ⟨lb0, hbn, tb, hDb0⟩ : ∃ lb0 : Nat, b < n ∧ ∃ tb, DL ls ats b = y :: tb := by
          obtain ⟨q1, q2, q3⟩ := pk_some hob
          exact ⟨0, by omega, q2, q3⟩
        obtain ⟨ab, hab⟩ : ∃ ab, ats[b]? = some ab := ⟨ats[b]'(by omega), List.getElem?_eq_getElem (by omega)⟩
        obtain ⟨vb, hvb⟩ : ∃ vb, vs[b]? = some vb := ⟨vs[b]'(by omega), List.getElem?_eq_getElem (by omega)⟩
        obtain ⟨lb, Ab, nb, cb, hlb, rfl, hncb, hsb⟩ := hr.get hvb
        have hDb := DL_at hlb hab
        rw [hDb0] at hDb
        have hy := head_drop hDb.symm
        have hylt := (List.getElem?_eq_some_iff.1 hy).1
        have hlbl := hsb.len
        have hlbb := hsb.bound
        rw [hob, show bI (some (b, y)) = (b : Int) from rfl]
        refine X.dTake 3 rfl (by kernel_rfl) (by kernel_rfl) (by kernel_rfl) (X.dwG rfl rfl rfl) (fun w' hk' => X.move (v := .slice _ _ _) rfl) ?_
        refine X.dTake 4 rfl (by kernel_rfl) (by kernel_rfl) (by kernel_rfl) (X.dwG rfl rfl rfl) (fun w' hk' => X.move (v := .int .i64 _) rfl) ?_
        refine X.dTake 5 rfl (by kernel_rfl) (by kernel_rfl) (by kernel_rfl) (X.dwG rfl rfl rfl) (fun w' hk' => X.idxS (hs.keep (((hkm.trans hk2).trans hk3).step hk' (by intros; (try simp only [] at *); omega))) Try.underlying22 Try.sizeOf24 rfl rfl ⟨by omega, by omega⟩) ?_
        refine X.dTake 6 rfl (by kernel_rfl) (by kernel_rfl) (by kernel_rfl) (X.dwG rfl rfl rfl) (fun w' hk' => X.loadS Try.isAgg24 (hs.keep (((hkm.trans hk2).trans hk3).step hk' (by intros; (try simp only [] at *); omega))) hvi rfl (fun _ h => by rw [h.1]; rfl)) ?_
        refine X.dTake 7 rfl (by kernel_rfl) (by kernel_rfl) (by kernel_rfl) (X.dwG rfl rfl rfl) (fun w' hk' => X.move (v := .slice _ _ _) rfl) ?_
        refine X.dTake 8 rfl (by kernel_rfl) (by kernel_rfl) (by kernel_rfl) (X.dwG rfl rfl rfl) (fun w' hk' => X.move (v := .int .i64 _) rfl) ?_
        refine X.dTake 9 rfl (by kernel_rfl) (by kernel_rfl) (by kernel_rfl) (X.dwG rfl rfl rfl) (fun w' hk' => X.idxS (((hsa.keep hwm).keep (hk2.trans hk3)).ext hk' (by intros; (try simp only []); omega)) Try.underlying54 Try.sizeOf3 rfl rfl ⟨by omega, by omega⟩) ?_
        refine X.dTake 10 rfl (by kernel_rfl) (by kernel_rfl) (by kernel_rfl) (X.dwG rfl rfl rfl) (fun w' hk' => X.loadS Try.isAgg3 (((hsa.keep hwm).keep (hk2.trans hk3)).ext hk' (by intros; (try simp only []); omega)) hai rfl (fun _ h => by rw [h.1]; rfl)) ?_
        refine X.dTake 11 rfl (by kernel_rfl) (by kernel_rfl) (by kernel_rfl) (X.dwG rfl rfl rfl) (fun w' hk' => X.idxS (hsi.keep (((hkm.trans hk2).trans hk3).step hk' (by intros; (try simp only [] at *); omega))) Try.underlying24 Try.sizeOf29 rfl rfl ⟨by omega, by omega⟩) ?_
        refine X.dTake 12 rfl (by kernel_rfl) (by kernel_rfl) (by kernel_rfl) (X.dwG rfl rfl rfl) (fun w' hk' => X.loadSN Try.isAgg29 Try.sizeOf29 (hsi.keep (((hkm.trans hk2).trans hk3).step hk' (by intros; (try simp only [] at *); omega))) hx rfl (fun _ h => h.1) rfl) ?_
        refine X.dTake 13 rfl (by kernel_rfl) (by kernel_rfl) (by kernel_rfl) (X.dwG rfl rfl rfl) (fun w' hk' => X.move (v := .slice _ _ _) rfl) ?_
        refine X.dTake 14 rfl (by kernel_rfl) (by kernel_rfl) (by kernel_rfl) (X.dwG rfl rfl rfl) (fun w' hk' => X.move (v := .int .i64 _) rfl) ?_
        refine X.dTake 15 rfl (by kernel_rfl) (by kernel_rfl) (by kernel_rfl) (X.dwG rfl rfl rfl) (fun w' hk' => X.idxS (hs.keep (((hkm.trans hk2).trans hk3).step hk' (by intros; (try simp only [] at *); omega))) Try.underlying22 Try.sizeOf24 rfl rfl ⟨by omega, by omega⟩) ?_
        refine X.dTake 16 rfl (by kernel_rfl) (by kernel_rfl) (by kernel_rfl) (X.dwG rfl rfl rfl) (fun w' hk' => X.loadS Try.isAgg24 (hs.keep (((hkm.trans hk2).trans hk3).step hk' (by intros; (try simp only [] at *); omega))) hvb rfl (fun _ h => by rw [h.1]; rfl)) ?_
        refine X.dTake 17 rfl (by kernel_rfl) (by kernel_rfl) (by kernel_rfl) (X.dwG rfl rfl rfl) (fun w' hk' => X.move (v := .slice _ _ _) rfl) ?_
        refine X.dTake 18 rfl (by kernel_rfl) (by kernel_rfl) (by kernel_rfl) (X.dwG rfl rfl rfl) (fun w' hk' => X.move (v := .int .i64 _) rfl) ?_
        refine X.dTake 19 rfl (by kernel_rfl) (by kernel_rfl) (by kernel_rfl) (X.dwG rfl rfl rfl) (fun w' hk' => X.idxS (((hsa.keep hwm).keep (hk2.trans hk3)).ext hk' (by intros; (try simp only []); omega)) Try.underlying54 Try.sizeOf3 rfl rfl ⟨by omega, by omega⟩) ?_
        refine X.dTake 20 rfl (by kernel_rfl) (by kernel_rfl) (by kernel_rfl) (X.dwG rfl rfl rfl) (fun w' hk' => X.loadS Try.isAgg3 (((hsa.keep hwm).keep (hk2.trans hk3)).ext hk' (by intros; (try simp only []); omega)) hab rfl (fun _ h => by rw [h.1]; rfl)) ?_
        refine X.dTake 21 rfl (by kernel_rfl) (by kernel_rfl) (by kernel_rfl) (X.dwG rfl rfl rfl) (fun w' hk' => X.idxS (hsb.keep (((hkm.trans hk2).trans hk3).step hk' (by intros; (try simp only [] at *); omega))) Try.underlying24 Try.sizeOf29 rfl rfl ⟨by omega, by omega⟩) ?_
        refine X.dTake 22 rfl (by kernel_rfl) (by kernel_rfl) (by kernel_rfl) (X.dwG rfl rfl rfl) (fun w' hk' => X.loadSN Try.isAgg29 Try.sizeOf29 (hsb.keep (((hkm.trans hk2).trans hk3).step hk' (by intros; (try simp only [] at *); omega))) hy rfl (fun _ h => h.1) rfl) ?_
        refine X.dE (i := 23) (by kernel_rfl) rfl (X.dwG rfl rfl rfl) (X.callE (Compare_c x y _) Try.call17 rfl rfl) (by rintro _ w4 ⟨nc4, rfl, hlt4, hgt4, hk4⟩ _; exact hk4.mono (fun _ _ h => h.elim)) ?_
        rintro _ w4 ⟨nc4, rfl, hlt4, hgt4, hk4⟩
        have hk4' := hk4.size
        refine X.dTake 24 rfl (by kernel_rfl) (by kernel_rfl) (by kernel_rfl) (X.dwG rfl rfl rfl) (fun w' hk' => X.lss rfl rfl) ?_
        refine X.dTake 25 rfl (by kernel_rfl) (by kernel_rfl) (by kernel_rfl) (X.dwN rfl) (fun w' hk' => X.pickF (v := .bool _) rfl rfl) ?_
        refine X.dEnd (by kernel_rfl) ?_
        refine X.condB rfl (fun hc => ?_) (fun hc => ?_)
        · have hxy : x.1 < (bestX (pk (DL ls ats) i)).1 := by rw [hob]; exact hlt4.1 (by simpa using hc)
          refine X.region ?_
          refine X.opw X.wN rfl (X.move (v := .int .i64 _) rfl) ?_
          refine X.opw X.wN rfl (X.assign (v := .int .i64 _) rfl) ?_
          refine X.opsEnd ?_
          refine X.inBlock ?_
          refine X.region ?_
          refine X.opw X.wN rfl (X.move (v := .int .i64 _) rfl) ?_
          refine X.opw X.wN rfl (X.add rfl rfl (X.w_i64 (by omega))) ?_
          refine X.opw X.wN rfl (X.assign (v := .int .i64 _) rfl) ?_
          refine X.opsEnd ?_
          have hpk := pk_new hDx (.inr hxy)
          refine hback2 (i + 1) _ _ ⟨(by first | rfl | (rw [hpk]; rfl)), (by first | rfl | (rw [hpk]; rfl)), (by first | rfl | (rw [hpk]; rfl)), (by first | rfl | (rw [hpk]; rfl)), (by first | rfl | (rw [hpk]; rfl)), trivial⟩ ⟨by omega, (((hwm.trans hk2).trans hk3).trans hk4), (((hkm.trans hk2).trans hk3).trans hk4)⟩ (by omega)
        · have hxy : ¬ x.1 < (bestX (pk (DL ls ats) i)).1 := by rw [hob]; intro h; have := hlt4.2 h; simp at hc; omega
          refine X.skip ?_
          refine X.inBlock ?_
          refine X.region ?_
          refine X.opw X.wN rfl (X.move (v := .int .i64 _) rfl) ?_
          refine X.opw X.wN rfl (X.add rfl rfl (X.w_i64 (by omega))) ?_
          refine X.opw X.wN rfl (X.assign (v := .int .i64 _) rfl) ?_
          refine X.opsEnd ?_
          have hpk := (pk_old hDx (by rw [hob]; simp) hxy).trans hob
          refine hback2 (i + 1) _ _ ⟨(by first | rfl | (rw [hpk]; rfl)), (by first | rfl | (rw [hpk]; rfl)), (by first | rfl | (rw [hpk]; rfl)), (by first | rfl | (rw [hpk]; rfl)), (by first | rfl | (rw [hpk]; rfl)), trivial⟩ ⟨by omega, (((hwm.trans hk2).trans hk3).trans hk4), (((hkm.trans hk2).trans hk3).trans hk4)⟩ (by omega)
  · have hin : i = n := by omega
    refine X.opsEnd ?_
    refine X.condF rfl ?_
    refine X.exit rfl ?_
    refine X.seq ?_
    refine X.seq ?_
    refine X.region ?_
    refine X.opw X.wN rfl (X.move (v := .int .i64 _) rfl) ?_
    refine X.opP X.wN rfl rfl (X.lss rfl rfl) (fun h54 => ?_) (fun h54 => ?_)
    · refine X.opsEnd ?_
      refine X.condT rfl ?_
      refine X.seq ?_
      refine X.region ?_
      refine X.opw X.wN rfl (X.move rfl) ?_
      refine X.opw X.wN rfl (X.assign rfl) ?_
      refine X.opsEnd ?_
      refine X.ret1 Try.func25 Try.results25 rfl ?_
      have e := bI_lt h54
      rw [hin] at e
      rw [mgC_none e, List.append_nil] at ho
      rw [ho] at hM0
      exact ⟨((hM0.keep hwm)).mono (fun k _ h => by (try simp only [] at *); omega), hkm⟩
    · obtain ⟨b, y, hob⟩ := bI_ge h54
      rw [hin] at hob
      rw [hin]
      obtain ⟨lb0, hbn, tb, hDb0⟩ : ∃ lb0 : Nat, b < n ∧ ∃ tb, DL ls ats b = y :: tb := by
        obtain ⟨q1, q2, q3⟩ := pk_some hob
        exact ⟨0, by omega, q2, q3⟩
      obtain ⟨ab, hab⟩ : ∃ ab, ats[b]? = some ab := ⟨ats[b]'(by omega), List.getElem?_eq_getElem (by omega)⟩
      obtain ⟨vb, hvb⟩ : ∃ vb, vs[b]? = some vb := ⟨vs[b]'(by omega), List.getElem?_eq_getElem (by omega)⟩
      obtain ⟨lb, Ab, nb, cb, hlb, rfl, hncb, hsb⟩ := hr.get hvb
      have hDb := DL_at hlb hab
      rw [hDb0] at hDb
      have hy := head_drop hDb.symm
      have hylt := (List.getElem?_eq_some_iff.1 hy).1
      have hlbl := hsb.len
      have hlbb := hsb.bound
      rw [hob, show bI (some (b, y)) = (b : Int) from rfl]
      refine X.opsEnd ?_
      refine X.condF rfl ?_
      refine X.skip ?_
      refine X.seq ?_
      refine X.regionD (fun k => w.heap.size < k) 13 (by kernel_rfl) (by kernel_rfl) (fun w5 hk5 hz5 => ?_)
      refine X.dTake 0 rfl (by kernel_rfl) (by kernel_rfl) (by kernel_rfl) (X.dwN rfl) (fun w' hk' => X.move rfl) ?_
      refine X.dTake 1 rfl (by kernel_rfl) (by kernel_rfl) (by kernel_rfl) (X.dwN rfl) (fun w' hk' => X.move (v := .slice _ _ _) rfl) ?_
      refine X.dTake 2 rfl (by kernel_rfl) (by kernel_rfl) (by kernel_rfl) (X.dwN rfl) (fun w' hk' => X.move (v := .int .i64 _) rfl) ?_
      refine X.dTake 3 rfl (by kernel_rfl) (by kernel_rfl) (by kernel_rfl) (X.dwN rfl) (fun w' hk' => X.idxS (hs.keep ((hkm.trans hk5).step hk' (by intros; (try simp only [] at *); omega))) Try.underlying22 Try.sizeOf24 rfl rfl ⟨by omega, by omega⟩) ?_
      refine X.dTake 4 rfl (by kernel_rfl) (by kernel_rfl) (by kernel_rfl) (X.dwN rfl) (fun w' hk' => X.loadS Try.isAgg24 (hs.keep ((hkm.trans hk5).step hk' (by intros; (try simp only [] at *); omega))) hvb rfl (fun _ h => by rw [h.1]; rfl)) ?_
      refine X.dTake 5 rfl (by kernel_rfl) (by kernel_rfl) (by kernel_rfl) (X.dwN rfl) (fun w' hk' => X.move (v := .slice _ _ _) rfl) ?_
      refine X.dTake 6 rfl (by kernel_rfl) (by kernel_rfl) (by kernel_rfl) (X.dwN rfl) (fun w' hk' => X.move (v := .int .i64 _) rfl) ?_
      refine X.dTake 7 rfl (by kernel_rfl) (by kernel_rfl) (by kernel_rfl) (X.dwN rfl) (fun w' hk' => X.idxS (((hsa.keep hwm).keep hk5).ext hk' (by intros; (try simp only []); omega)) Try.underlying54 Try.sizeOf3 rfl rfl ⟨by omega, by omega⟩) ?_
      refine X.dTake 8 rfl (by kernel_rfl) (by kernel_rfl) (by kernel_rfl) (X.dwN rfl) (fun w' hk' => X.loadS Try.isAgg3 (((hsa.keep hwm).keep hk5).ext hk' (by intros; (try simp only []); omega)) hab rfl (fun _ h => by rw [h.1]; rfl)) ?_
      refine X.dTake 9 rfl (by kernel_rfl) (by kernel_rfl) (by kernel_rfl) (X.dwN rfl) (fun w' hk' => X.idxS (hsb.keep ((hkm.trans hk5).step hk' (by intros; (try simp only [] at *); omega))) Try.underlying24 Try.sizeOf29 rfl rfl ⟨by omega, by omega⟩) ?_
      refine X.dTake 10 rfl (by kernel_rfl) (by kernel_rfl) (by kernel_rfl) (X.dwN rfl) (fun w' hk' => X.loadSN Try.isAgg29 Try.sizeOf29 (hsb.keep ((hkm.trans hk5).step hk' (by intros; (try simp only [] at *); omega))) hy rfl (fun _ h => h.1) rfl) ?_
      refine X.dE (i := 11) (by kernel_rfl) rfl (X.dwN rfl) (X.litKF KTh_flat (K := KTh) (xs := [Operand.tmp 66]) (vs := [evT y]) (ys := [y]) Try.underlying24 Try.sizeOf29 Try.zeroValue29 rfl rfl rfl rfl rfl (repsT y)) (by rintro _ w6 ⟨rfl, hs6, hB6, hk6, hz6⟩ _; exact hk6.mono (fun _ _ h => h.elim)) ?_
      rintro _ w6 ⟨rfl, hs6, hB6, hk6, hz6⟩
      refine X.dE (i := 12) (by kernel_rfl) rfl (X.dwN rfl) (X.appE (K := KTh) (S := fun k => w.heap.size < k) KTh_flat Try.underlying24 ETh rfl rfl ((hM0.keep hwm).keep (hk5.trans hk6)) hs6 (by (try simp only [List.length_append, List.length_cons, List.length_nil, List.length_take, List.length_drop, List.length_map, List.length_range]); omega) (by intros; (try simp only [] at *); omega)) (by rintro v7 w7 ⟨hM7, hx7⟩ _; exact hx7.mono (fun k _ h => by (try simp only [] at *); omega)) ?_
      rintro v7 w7 ⟨hM7, hx7⟩
      have hx7' := hx7.size
      refine X.dStep (i := 13) (by kernel_rfl) rfl (X.dwN rfl) (X.assign rfl) (fun h => absurd h (by decide)) ?_
      refine X.dEnd (by kernel_rfl) ?_
      refine X.region ?_
      refine X.opw X.wN rfl (X.move (v := .slice _ _ _) rfl) ?_
      refine X.opw X.wN rfl (X.move (v := .int .i64 _) rfl) ?_
      refine X.opw X.wN rfl (X.idxS (((hsa.keep hwm).keep (hk5.trans hk6)).ext hx7 (by intros; (try simp only []); omega)) Try.underlying54 Try.sizeOf3 rfl rfl ⟨by omega, by omega⟩) ?_
      refine X.opw X.wN rfl (X.loadS Try.isAgg3 (((hsa.keep hwm).keep (hk5.trans hk6)).ext hx7 (by intros; (try simp only []); omega)) hab rfl (fun _ h => by rw [h.1]; rfl)) ?_
      refine X.opw X.wN rfl (X.add (c := ((ab + 1 : Nat) : Int)) rfl rfl (by rw [X.w_i64 (by omega)]; omega)) ?_
      refine X.opw X.wN rfl (X.idxS (((hsa.keep hwm).keep (hk5.trans hk6)).ext hx7 (by intros; (try simp only []); omega)) Try.underlying54 Try.sizeOf3 rfl rfl ⟨by omega, by omega⟩) ?_
      refine X.opE X.wN rfl (X.storeMN (j := b) (y := ab + 1) Try.sizeOf3 (((hMa.keep hwm).keep (hk5.trans hk6)).ext hx7 (by intros; (try simp only []); omega) (by intros; (try simp only []); omega)) (by omega) rfl rfl) ?_
      rintro _ w8 ⟨hM8, hx8, hz8⟩
      refine X.opsEnd ?_
      refine X.inBlock ?_
      have htu := totL_upd hDb0 n
      rw [if_pos hbn] at htu
      have hset := DL_set (ls := ls) hab
      refine hback (ats.set b (ab + 1), _, out ++ [y]) _ _ ⟨rfl, rfl, rfl, trivial⟩ ⟨by dsimp only; rw [List.length_set]; exact hal, by dsimp only; rw [hset, List.length_append, List.length_singleton]; omega, by dsimp only; rw [hset, ← ho, mgC_some hob]; simp, hM8, (hM7.ext hx8 (by intros; (try simp only []); omega) (by intros; (try simp only []); omega)), ((((hkm.trans hk5).trans hk6).step hx7 (by intros; (try simp only [] at *); omega)).step hx8 (by intros; (try simp only [] at *); omega)), by omega⟩ (by dsimp only; rw [hset]; omega)
end Go.Proofs.Ytgfficbkajcdpaa

namespace Go.Proofs.Ytgfficbkajcdpaa
open Go Go.Proofs.Ytgfficbkajcdpaa.X
set_option linter.unusedVariables false
set_option linter.unusedSimpArgs false
section
variable {P : Program} {ρ : Operand → Value} {w : World} {dst : Option Tmp} {ty : TypeId} {pos : String} {aft : Array Edge} {g : Option (Nat × Bool)}
theorem minI {s x : Operand} {ts : Array TypeId} {k k' : IntKind} {a b : Int} (hs : ρ s = .int k a) (hx : ρ x = .int k' b) : Does P ⟨dst, .call ⟨.builtin .min, #[s, x], ts⟩, ty, pos, aft, g⟩ ρ w (.int k (if b < a then b else a)) w :=
  does_run rfl (by simp only [execOp, resolve, invoke, builtin, List.map_toArray, List.map_cons, List.map_nil, hs, hx]; simp [Builtin.min_, Builtin.min2])
end
-- f4 "pedigree/pedigreelaw09.MergeRows" params [24, 3] results [4] -> [(ResultVar.tmp 4)] nfree 0 ntmps 80 na
set_option maxHeartbeats 4000000 in
set_option maxRecDepth 100000 in
theorem MergeRows_c (w : World) (A1 : Option Addr) (n1 c1 : Nat) (l1 : List TH) (hc1 : n1 ≤ c1) (s1 : Sl (Kd.pair (KN .i8) KI) 0 w.heap.size w A1 n1 l1) (a : Int) (ha : -9223372036854775808 ≤ a ∧ a ≤ 9223372036854775807) :
    Ret Try.prog 4 #[.slice A1 n1 c1, .int .i64 a] w fun r w' => r = .bool true ∧ Keep w w' := by
  have hsx := sl_things s1
  have hlx := hsx.len
  obtain ⟨mq0, hmq0, hs30⟩ : ∃ mq0, mq0 = min n1 30 ∧ Sl KTh 0 w.heap.size w A1 mq0 (l1.take 30) := by
    by_cases h : n1 ≤ 30
    · exact ⟨n1, by omega, by rw [List.take_of_length_le (by omega)]; exact hsx⟩
    · exact ⟨30, by omega, hsx.take 30 (by omega)⟩
  refine X.enter Try.func4 rfl Try.ntmps4 rfl ?_
  refine X.seq ?_
  refine X.region ?_
  refine X.opE X.wN rfl (X.boxE rfl rfl) ?_
  rintro _ w1 ⟨rfl, hB1, hk1, hz1⟩
  refine X.opE X.wN rfl (X.boxE rfl rfl) ?_
  rintro _ w2 ⟨rfl, hB2, hk2, hz2⟩
  refine X.opw X.wN rfl (X.assign rfl) ?_
  refine X.opsEnd ?_
  refine X.seq ?_
  refine X.region ?_
  refine X.opw X.wN rfl (X.load1B Try.isAgg24 (hB1.keep hk2) rfl rfl) ?_
  refine X.opE X.wN rfl (X.callE (short_c _ (hsx.keep (hk1.trans hk2)) (by omega)) Try.call19 rfl rfl) ?_
  rintro _ w3 ⟨mq, rfl, hmc, hm3, hsq, hk3⟩
  have hk3' := hk3.size
  refine X.opE X.wN rfl (X.storeE Try.sizeOf24 (hB1.keep (hk2.trans hk3)) rfl rfl rfl rfl) ?_
  rintro _ w4 ⟨hB4, hx4, hz4⟩
  refine X.opsEnd ?_
  refine X.seq ?_
  refine X.region ?_
  refine X.opw X.wN rfl (X.load1B Try.isAgg24 hB4 rfl rfl) ?_
  refine X.opE X.wN rfl (X.callE (Of_c w.heap.size _ (hsq.ext hx4 (by intros; (try simp only []); omega)) (by omega) (by omega)) Try.call20 rfl rfl) ?_
  rintro _ w5 ⟨bm5, rfl, hC5, hk5⟩
  have hk5' := hk5.size
  refine X.opE X.wN rfl (X.callE (rest_b _ (CV.cur hC5) (by omega) (fun k hk => by (try simp only [] at *); omega) (take_lt _)) Try.call15 rfl rfl) ?_
  rintro _ w6 ⟨v6, rfl, hM6, hx6⟩
  have hx6' := hx6.size
  refine X.opw X.wN rfl (X.move rfl) ?_
  refine X.opw X.wN rfl (X.extr rfl rfl) ?_
  refine X.opw X.wN rfl (X.extr rfl rfl) ?_
  refine X.opw X.wN rfl (X.assign rfl) ?_
  refine X.opw X.wN rfl (X.assign (v := .bool _) rfl) ?_
  refine X.opsEnd ?_
  refine X.seq ?_
  refine X.region ?_
  refine X.opw X.wN rfl (X.load1B Try.isAgg24 ((hB4.keep hk5).ext hx6 (by intros; (try simp only []); omega)) rfl rfl) ?_
  refine X.opE X.wN rfl (X.callE (Of_c w.heap.size _ (((hsq.ext hx4 (by intros; (try simp only []); omega)).keep hk5).ext hx6 (by intros; (try simp only []); omega)) (by omega) (by omega)) Try.call20 rfl rfl) ?_
  rintro _ w7 ⟨bm7, rfl, hC7, hk7⟩
  have hk7' := hk7.size
  refine X.opE X.wN rfl (X.callE (Rest_c _ (CV.cur hC7) (by omega) (fun k hk => by (try simp only [] at *); omega) (by rw [List.length_take]; omega)) Try.call21 rfl rfl) ?_
  rintro v8 w8 ⟨hM8, hx8⟩
  have hx8' := hx8.size
  refine X.opw X.wN rfl (X.assign rfl) ?_
  refine X.opsEnd ?_
  refine X.seq ?_
  refine X.seq ?_
  refine X.region ?_
  refine X.opw X.wN rfl (X.move (v := .bool true) rfl) ?_
  refine X.opw X.wN rfl (X.not_ rfl) ?_
  refine X.opw X.wN rfl (X.move (v := .bool false) rfl) ?_
  refine X.opw (X.wG rfl rfl rfl) rfl (X.move rfl) ?_
  refine X.opw (X.wG rfl rfl rfl) rfl (X.load1B Try.isAgg24 ((((hB4.keep hk5).ext hx6 (by intros; (try simp only []); omega)).keep hk7).ext hx8 (by intros; (try simp only []); omega)) rfl rfl) ?_
  have q10 := ((hM6.keep hk7).ext hx8 (by intros; (try simp only []); omega) (by intros; (try simp only []); omega)).slF KTh_flat 0 (fun _ _ => Nat.zero_le _)
  obtain ⟨A10, c10, rfl, hc10, hs10⟩ := q10
  refine X.opE (X.wG rfl rfl rfl) rfl (X.callE (Same_c _ hs10 (((((hsq.ext hx4 (by intros; (try simp only []); omega)).keep hk5).ext hx6 (by intros; (try simp only []); omega)).keep hk7).ext hx8 (by intros; (try simp only []); omega))) Try.call22 rfl rfl) ?_
  rintro _ w9 ⟨rfl, hk9⟩
  have hk9' := hk9.size
  refine X.opw (X.wG rfl rfl rfl) rfl (X.not_ rfl) ?_
  refine X.opw X.wN rfl (X.pickF (v := .bool _) rfl rfl) ?_
  refine X.opw X.wN rfl (X.move (v := .bool _) rfl) ?_
  refine X.forkO 33 rfl (fun h33 => ?_) (fun h33 => ?_)
  · simp at h33
  · refine X.opw (X.wG rfl rfl rfl) rfl (X.move rfl) ?_
    refine X.opw (X.wG rfl rfl rfl) rfl (X.load1B Try.isAgg24 (((((hB4.keep hk5).ext hx6 (by intros; (try simp only []); omega)).keep hk7).ext hx8 (by intros; (try simp only []); omega)).keep hk9) rfl rfl) ?_
    have q12 := (hM8.keep hk9).slF KTh_flat 0 (fun _ _ => Nat.zero_le _)
    obtain ⟨A12, c12, rfl, hc12, hs12⟩ := q12
    refine X.opE (X.wG rfl rfl rfl) rfl (X.callE (Same_c _ hs12 ((((((hsq.ext hx4 (by intros; (try simp only []); omega)).keep hk5).ext hx6 (by intros; (try simp only []); omega)).keep hk7).ext hx8 (by intros; (try simp only []); omega)).keep hk9)) Try.call22 rfl rfl) ?_
    rintro _ w11 ⟨rfl, hk11⟩
    have hk11' := hk11.size
    refine X.opw (X.wG rfl rfl rfl) rfl (X.not_ rfl) ?_
    refine X.opw X.wN rfl (X.pickF (v := .bool _) rfl rfl) ?_
    refine X.opsEnd ?_
    refine X.condB rfl (fun hc => ?_) (fun hc => ?_)
    · simp at hc
    · refine X.skip ?_
      refine X.seq ?_
      refine X.region ?_
      refine X.opw X.wN rfl (X.load1B Try.isAgg24 (((((hB4.keep hk5).ext hx6 (by intros; (try simp only []); omega)).keep hk7).ext hx8 (by intros; (try simp only []); omega)).keep (hk9.trans hk11)) rfl rfl) ?_
      refine X.opE X.wN rfl (X.callE (Of_c w.heap.size _ ((((((hsq.ext hx4 (by intros; (try simp only []); omega)).keep hk5).ext hx6 (by intros; (try simp only []); omega)).keep hk7).ext hx8 (by intros; (try simp only []); omega)).keep (hk9.trans hk11)) (by omega) (by omega)) Try.call20 rfl rfl) ?_
      rintro _ w13 ⟨bm13, rfl, hC13, hk13⟩
      have hk13' := hk13.size
      refine X.opw X.wN rfl (X.assign rfl) ?_
      refine X.opsEnd ?_
      refine X.seq ?_
      refine X.region ?_
      refine X.opw X.wN rfl (X.move rfl) ?_
      refine X.opE X.wN rfl (X.callE (All_c _ _) Try.call23 rfl rfl) ?_
      rintro _ w14 ⟨rfl, hB14, hk14, hz14⟩
      refine X.opw X.wN rfl (X.assign rfl) ?_
      refine X.opsEnd ?_
      refine X.seq ?_
      refine X.seq ?_
      refine X.region ?_
      refine X.opw X.wN rfl (X.move rfl) ?_
      refine X.opw X.wN rfl (X.eqFn1 Try.underlying44 rfl rfl) ?_
      refine X.opsEnd ?_
      refine X.condF rfl ?_
      refine X.skip ?_
      refine X.seq ?_
      refine X.seq ?_
      refine X.region ?_
      refine X.opw X.wN rfl (X.load1B Try.isAgg3 (((((((hB2.keep hk3).ext hx4 (by intros; (try simp only []); omega)).keep hk5).ext hx6 (by intros; (try simp only []); omega)).keep hk7).ext hx8 (by intros; (try simp only []); omega)).keep (((hk9.trans hk11).trans hk13).trans hk14)) rfl rfl) ?_
      refine X.opP X.wN rfl rfl (X.lss rfl rfl) (fun h46 => ?_) (fun h46 => ?_)
      · refine X.opw X.wN rfl (X.move (v := .bool true) rfl) ?_
        refine X.opS rfl rfl rfl rfl rfl ?_
        refine X.opS rfl rfl rfl rfl rfl ?_
        refine X.opw X.wN rfl (X.pickT (v := .bool true) rfl rfl) ?_
        refine X.opsEnd ?_
        refine X.condT rfl ?_
        refine X.region ?_
        refine X.opE X.wN rfl (X.storeE Try.sizeOf3 (((((((hB2.keep hk3).ext hx4 (by intros; (try simp only []); omega)).keep hk5).ext hx6 (by intros; (try simp only []); omega)).keep hk7).ext hx8 (by intros; (try simp only []); omega)).keep (((hk9.trans hk11).trans hk13).trans hk14)) rfl rfl rfl rfl) ?_
        rintro _ w15 ⟨hB15, hx15, hz15⟩
        refine X.opsEnd ?_
        refine X.seq ?_
        refine X.region ?_
        refine X.opE X.wN rfl (X.allocE Try.zeroValue3 rfl) ?_
        rintro _ w16 ⟨rfl, hB16, hk16, hz16⟩
        refine X.opE X.wN rfl (X.allocE Try.zeroValue4 rfl) ?_
        rintro _ w17 ⟨rfl, hB17, hk17, hz17⟩
        refine X.opE X.wN rfl (X.storeE Try.sizeOf3 (hB16.keep hk17) rfl rfl rfl rfl) ?_
        rintro _ w18 ⟨hB18, hx18, hz18⟩
        refine X.opE X.wN rfl (X.storeE Try.sizeOf4 (hB17.ext hx18 (by intros; (try simp only []); omega)) rfl rfl rfl rfl) ?_
        rintro _ w19 ⟨hB19, hx19, hz19⟩
        refine X.opsEnd ?_
        refine X.seq ?_
        refine X.region ?_
        refine X.opw X.wN rfl (X.move rfl) ?_
        refine X.opw X.wN rfl (X.mkFunc rfl) ?_
        refine X.opE X.wN rfl ((YC.of_ret (args := [_]) (cap := [_]) (all1_c (.func (.func 24) #[] #[ptrV (w16.heap.size), ptrV (w15.heap.size), ptrV (w.heap.size), ptrV (w1.heap.size)]) _ (w13.heap.size) w.heap.size _ (fun k => k = w16.heap.size ∨ k = w15.heap.size) (fun ys w' => ∃ i : Nat, ys = (l1.take 30).drop i ∧ i ≤ mq ∧ i < 31 ∧ Blk w' (w16.heap.size) [.bool true] 4 ∧ Blk w' (w15.heap.size) [.int .i64 (i : Int)] 3 ∧ Blk w' (w.heap.size) [.slice A1 mq c1] 24 ∧ Blk w' (w1.heap.size) [.int .i64 ((31 : Nat) : Int)] 3 ∧ Sl KTh 0 w.heap.size w' A1 mq (l1.take 30)) (fun ys w' => ∃ i : Nat, ys = (l1.take 30).drop i ∧ i ≤ mq ∧ i = 31 ∧ Blk w' (w16.heap.size) [.bool true] 4 ∧ Blk w' (w15.heap.size) [.int .i64 (i : Int)] 3 ∧ Blk w' (w.heap.size) [.slice A1 mq c1] 24 ∧ Blk w' (w1.heap.size) [.int .i64 ((31 : Nat) : Int)] 3 ∧ Sl KTh 0 w.heap.size w' A1 mq (l1.take 30)) _ ((hB14.ext hx15 (by intros; (try simp only []); omega)).keep (((hk16.trans hk17).step hx18 (by intros; (try simp only [] at *); omega)).step hx19 (by intros; (try simp only [] at *); omega))) (CV.cur (((hC13.keep hk14).ext hx15 (by intro k hk hk2; refine ⟨?_, fun ht => ?_⟩ <;> ((try simp only [] at *); omega))).keep (((hk16.trans hk17).step hx18 (by intros; (try simp only [] at *); omega)).step hx19 (by intros; (try simp only [] at *); omega)))) (by omega) (fun k hk => by (try simp only [] at *); omega) (by (try simp only []); omega) (by (try simp only []); omega) (fun k hk => by (try simp only [] at *); omega) ⟨0, rfl, Nat.zero_le _, by omega, hB19, (hB18.ext hx19 (by intros; (try simp only []); omega)), (((((((hB4.keep hk5).ext hx6 (by intros; (try simp only []); omega)).keep hk7).ext hx8 (by intros; (try simp only []); omega)).keep (((hk9.trans hk11).trans hk13).trans hk14)).ext hx15 (by intros; (try simp only []); omega)).keep (((hk16.trans hk17).step hx18 (by intros; (try simp only [] at *); omega)).step hx19 (by intros; (try simp only [] at *); omega))), (hB15.keep (((hk16.trans hk17).step hx18 (by intros; (try simp only [] at *); omega)).step hx19 (by intros; (try simp only [] at *); omega))), ((((((((hsq.ext hx4 (by intros; (try simp only []); omega)).keep hk5).ext hx6 (by intros; (try simp only []); omega)).keep hk7).ext hx8 (by intros; (try simp only []); omega)).keep (((hk9.trans hk11).trans hk13).trans hk14)).ext hx15 (by intros; (try simp only []); omega)).keep (((hk16.trans hk17).step hx18 (by intros; (try simp only [] at *); omega)).step hx19 (by intros; (try simp only [] at *); omega)))⟩ (fun ys wu wv ⟨i, g1, g2, g3, g4, g5, g6, g7, g8⟩ x => ⟨i, g1, g2, g3, g4.ext x (by (try simp only []); omega), g5.ext x (by (try simp only []); omega), g6.ext x (by (try simp only []); omega), g7.ext x (by (try simp only []); omega), g8.ext x (by intros; (try simp only []); omega)⟩) (fun y ys wu ⟨i, g1, g2, g3, g4, g5, g6, g7, g8⟩ => by
      have hy := head_drop g1.symm
      have hyl := (List.getElem?_eq_some_iff.1 hy).1
      have hml := g8.len
      have g4l := g4.lt
      refine YC.of_ret (args := [_]) (cap := [_, _, _, _]) ((rows1_c y i 31 _ _ _ _ wu g4 g5 g6 g7 g8 hy (by omega) (by omega) (by omega)).mono ?_) Try.call24
      rintro r wv ⟨rfl, q1, q2, qx⟩
      have e : ys = (l1.take 30).drop (i + 1) := by have := congrArg List.tail g1; rw [List.tail_drop] at this; exact this
      refine ⟨_, rfl, qx, fun h => ⟨i + 1, e, by omega, of_decide_eq_true h, q1, q2, g6.ext qx (by (try simp only []); omega), g7.ext qx (by (try simp only []); omega), g8.ext qx (by intros; (try simp only []); omega)⟩, fun h => ⟨i + 1, e, by omega, by have := of_decide_eq_false h; omega, q1, q2, g6.ext qx (by (try simp only []); omega), g7.ext qx (by (try simp only []); omega), g8.ext qx (by intros; (try simp only []); omega)⟩⟩)) Try.call52) _ _ _ _ _ _ _ _ _ rfl rfl) ?_
        rintro _ w20 ⟨rfl, ⟨ysq, hCq, hor⟩, hx20⟩
        have hx20' := hx20.size
        obtain ⟨iq, giq, gi1, gi2, gB1, gB2, gB3, gB4, gSl⟩ : ∃ iq : Nat, ysq = (l1.take 30).drop iq ∧ iq ≤ mq ∧ (iq = mq ∧ iq < 31 ∨ iq = 31) ∧ Blk w20 (w16.heap.size) [.bool true] 4 ∧ Blk w20 (w15.heap.size) [.int .i64 (iq : Int)] 3 ∧ Blk w20 (w.heap.size) [.slice A1 mq c1] 24 ∧ Blk w20 (w1.heap.size) [.int .i64 ((31 : Nat) : Int)] 3 ∧ Sl KTh 0 w.heap.size w20 A1 mq (l1.take 30) := by
          rcases hor with ⟨h1, i, h2, h3, h4, h5⟩ | ⟨i, h1, h2, h3, h4⟩
          · refine ⟨i, by rw [h1]; exact h2, h3, .inl ⟨?_, h4⟩, h5⟩
            have := congrArg List.length h2
            rw [List.length_drop, hsq.len] at this
            simp at this; omega
          · exact ⟨i, h1, h2, .inr h3, h4⟩
        refine X.opsEnd ?_
        refine X.seq ?_
        refine X.seq ?_
        refine X.region ?_
        refine X.opw X.wN rfl (X.load1B Try.isAgg4 gB1 rfl rfl) ?_
        refine X.opw X.wN rfl (X.not_ rfl) ?_
        refine X.opw X.wN rfl (X.move (v := .bool false) rfl) ?_
        refine X.opw (X.wG rfl rfl rfl) rfl (X.load1B Try.isAgg3 gB2 rfl rfl) ?_
        refine X.opw (X.wG rfl rfl rfl) rfl (X.load1B Try.isAgg24 gB3 rfl rfl) ?_
        refine X.opw (X.wG rfl rfl rfl) rfl (X.lenSl Try.underlying24 rfl) ?_
        refine X.opw (X.wG rfl rfl rfl) rfl (X.load1B Try.isAgg3 gB4 rfl rfl) ?_
        refine X.opw (X.wG rfl rfl rfl) rfl (minI rfl rfl) ?_
        refine X.opP (X.wG rfl rfl rfl) rfl rfl (X.neI rfl rfl) (fun h62 => ?_) (fun h62 => ?_)
        · exact absurd (by split <;> omega) h62
        · refine X.opw X.wN rfl (X.pickF (v := .bool false) rfl rfl) ?_
          refine X.opsEnd ?_
          refine X.condF rfl ?_
          refine X.skip ?_
          refine X.seq ?_
          refine X.region ?_
          refine X.opw X.wN rfl (X.move rfl) ?_
          refine X.opE X.wN rfl (X.callE (rest_b _ hCq (by omega) (fun k hk => by (try simp only [] at *); omega) (by rw [giq, List.length_drop]; have := hsq.len; omega)) Try.call15 rfl rfl) ?_
          rintro _ w21 ⟨v21, rfl, hM21, hx21⟩
          have hx21' := hx21.size
          refine X.opw X.wN rfl (X.move rfl) ?_
          refine X.opw X.wN rfl (X.extr rfl rfl) ?_
          refine X.opw X.wN rfl (X.extr rfl rfl) ?_
          refine X.opw X.wN rfl (X.assign rfl) ?_
          refine X.opw X.wN rfl (X.assign (v := .bool _) rfl) ?_
          refine X.opsEnd ?_
          refine X.seq ?_
          refine X.region ?_
          refine X.opw X.wN rfl (X.move (v := .bool true) rfl) ?_
          refine X.opw X.wN rfl (X.move (v := .bool true) rfl) ?_
          refine X.opw (X.wG rfl rfl rfl) rfl (X.move rfl) ?_
          refine X.opw (X.wG rfl rfl rfl) rfl (X.load1B Try.isAgg24 (gB3.ext hx21 (by intros; (try simp only []); omega)) rfl rfl) ?_
          refine X.opw (X.wG rfl rfl rfl) rfl (X.load1B Try.isAgg3 (gB2.ext hx21 (by intros; (try simp only []); omega)) rfl rfl) ?_
          refine X.opw (X.wG rfl rfl rfl) rfl (X.cutL Try.underlying24 Try.sizeOf29 rfl rfl (by omega)) ?_
          have q23 := hM21.slF KTh_flat 0 (fun _ _ => Nat.zero_le _)
          obtain ⟨A23, c23, rfl, hc23, hs23⟩ := q23
          refine X.opE (X.wG rfl rfl rfl) rfl (X.callE (Same_c _ hs23 ((gSl.drop iq c1 (by omega) (by omega)).ext hx21 (by intros; (try simp only []); omega))) Try.call22 rfl rfl) ?_
          rintro _ w22 ⟨rfl, hk22⟩
          have hk22' := hk22.size
          refine X.opw X.wN rfl (X.pickT (v := .bool _) rfl rfl) ?_
          refine X.opw X.wN rfl (X.move (v := .bool _) rfl) ?_
          refine X.forkO 77 rfl (fun h77 => ?_) (fun h77 => ?_)
          · refine X.opE (X.wG rfl rfl rfl) rfl (X.callE (alive_c _) Try.call14 rfl rfl) ?_
            rintro _ w24 ⟨rfl, hk24⟩
            have hk24' := hk24.size
            refine X.opw X.wN rfl (X.pickT (v := .bool _) rfl rfl) ?_
            refine X.opw X.wN rfl (X.assign (v := .bool _) rfl) ?_
            refine X.opsEnd ?_
            refine X.ret1 (v := (.bool _)) Try.func4 Try.results4 rfl ?_
            exact ⟨rfl, ((((((((((((((((((((hk1.trans hk2).trans hk3).step hx4 (by intros; (try simp only [] at *); omega)).trans hk5).step hx6 (by intros; (try simp only [] at *); omega)).trans hk7).step hx8 (by intros; (try simp only [] at *); omega)).trans hk9).trans hk11).trans hk13).trans hk14).step hx15 (by intros; (try simp only [] at *); omega)).trans hk16).trans hk17).step hx18 (by intros; (try simp only [] at *); omega)).step hx19 (by intros; (try simp only [] at *); omega)).step hx20 (by intros; (try simp only [] at *); omega)).step hx21 (by intros; (try simp only [] at *); omega)).trans hk22).trans hk24)⟩
          · rw [giq] at h77; simp at h77
      · refine X.opw X.wN rfl (X.move (v := .bool false) rfl) ?_
        refine X.opw (X.wG rfl rfl rfl) rfl (X.load1B Try.isAgg3 (((((((hB2.keep hk3).ext hx4 (by intros; (try simp only []); omega)).keep hk5).ext hx6 (by intros; (try simp only []); omega)).keep hk7).ext hx8 (by intros; (try simp only []); omega)).keep (((hk9.trans hk11).trans hk13).trans hk14)) rfl rfl) ?_
        refine X.opP (X.wG rfl rfl rfl) rfl rfl (X.gtr rfl rfl) (fun h49 => ?_) (fun h49 => ?_)
        · refine X.opw X.wN rfl (X.pickF (v := .bool true) rfl rfl) ?_
          refine X.opsEnd ?_
          refine X.condT rfl ?_
          refine X.region ?_
          refine X.opE X.wN rfl (X.storeE Try.sizeOf3 (((((((hB2.keep hk3).ext hx4 (by intros; (try simp only []); omega)).keep hk5).ext hx6 (by intros; (try simp only []); omega)).keep hk7).ext hx8 (by intros; (try simp only []); omega)).keep (((hk9.trans hk11).trans hk13).trans hk14)) rfl rfl rfl rfl) ?_
          rintro _ w25 ⟨hB25, hx25, hz25⟩
          refine X.opsEnd ?_
          refine X.seq ?_
          refine X.region ?_
          refine X.opE X.wN rfl (X.allocE Try.zeroValue3 rfl) ?_
          rintro _ w26 ⟨rfl, hB26, hk26, hz26⟩
          refine X.opE X.wN rfl (X.allocE Try.zeroValue4 rfl) ?_
          rintro _ w27 ⟨rfl, hB27, hk27, hz27⟩
          refine X.opE X.wN rfl (X.storeE Try.sizeOf3 (hB26.keep hk27) rfl rfl rfl rfl) ?_
          rintro _ w28 ⟨hB28, hx28, hz28⟩
          refine X.opE X.wN rfl (X.storeE Try.sizeOf4 (hB27.ext hx28 (by intros; (try simp only []); omega)) rfl rfl rfl rfl) ?_
          rintro _ w29 ⟨hB29, hx29, hz29⟩
          refine X.opsEnd ?_
          refine X.seq ?_
          refine X.region ?_
          refine X.opw X.wN rfl (X.move rfl) ?_
          refine X.opw X.wN rfl (X.mkFunc rfl) ?_
          refine X.opE X.wN rfl ((YC.of_ret (args := [_]) (cap := [_]) (all1_c (.func (.func 24) #[] #[ptrV (w26.heap.size), ptrV (w25.heap.size), ptrV (w.heap.size), ptrV (w1.heap.size)]) _ (w13.heap.size) w.heap.size _ (fun k => k = w26.heap.size ∨ k = w25.heap.size) (fun ys w' => ∃ i : Nat, ys = (l1.take 30).drop i ∧ i ≤ mq ∧ i < 31 ∧ Blk w' (w26.heap.size) [.bool true] 4 ∧ Blk w' (w25.heap.size) [.int .i64 (i : Int)] 3 ∧ Blk w' (w.heap.size) [.slice A1 mq c1] 24 ∧ Blk w' (w1.heap.size) [.int .i64 ((31 : Nat) : Int)] 3 ∧ Sl KTh 0 w.heap.size w' A1 mq (l1.take 30)) (fun ys w' => ∃ i : Nat, ys = (l1.take 30).drop i ∧ i ≤ mq ∧ i = 31 ∧ Blk w' (w26.heap.size) [.bool true] 4 ∧ Blk w' (w25.heap.size) [.int .i64 (i : Int)] 3 ∧ Blk w' (w.heap.size) [.slice A1 mq c1] 24 ∧ Blk w' (w1.heap.size) [.int .i64 ((31 : Nat) : Int)] 3 ∧ Sl KTh 0 w.heap.size w' A1 mq (l1.take 30)) _ ((hB14.ext hx25 (by intros; (try simp only []); omega)).keep (((hk26.trans hk27).step hx28 (by intros; (try simp only [] at *); omega)).step hx29 (by intros; (try simp only [] at *); omega))) (CV.cur (((hC13.keep hk14).ext hx25 (by intro k hk hk2; refine ⟨?_, fun ht => ?_⟩ <;> ((try simp only [] at *); omega))).keep (((hk26.trans hk27).step hx28 (by intros; (try simp only [] at *); omega)).step hx29 (by intros; (try simp only [] at *); omega)))) (by omega) (fun k hk => by (try simp only [] at *); omega) (by (try simp only []); omega) (by (try simp only []); omega) (fun k hk => by (try simp only [] at *); omega) ⟨0, rfl, Nat.zero_le _, by omega, hB29, (hB28.ext hx29 (by intros; (try simp only []); omega)), (((((((hB4.keep hk5).ext hx6 (by intros; (try simp only []); omega)).keep hk7).ext hx8 (by intros; (try simp only []); omega)).keep (((hk9.trans hk11).trans hk13).trans hk14)).ext hx25 (by intros; (try simp only []); omega)).keep (((hk26.trans hk27).step hx28 (by intros; (try simp only [] at *); omega)).step hx29 (by intros; (try simp only [] at *); omega))), (hB25.keep (((hk26.trans hk27).step hx28 (by intros; (try simp only [] at *); omega)).step hx29 (by intros; (try simp only [] at *); omega))), ((((((((hsq.ext hx4 (by intros; (try simp only []); omega)).keep hk5).ext hx6 (by intros; (try simp only []); omega)).keep hk7).ext hx8 (by intros; (try simp only []); omega)).keep (((hk9.trans hk11).trans hk13).trans hk14)).ext hx25 (by intros; (try simp only []); omega)).keep (((hk26.trans hk27).step hx28 (by intros; (try simp only [] at *); omega)).step hx29 (by intros; (try simp only [] at *); omega)))⟩ (fun ys wu wv ⟨i, g1, g2, g3, g4, g5, g6, g7, g8⟩ x => ⟨i, g1, g2, g3, g4.ext x (by (try simp only []); omega), g5.ext x (by (try simp only []); omega), g6.ext x (by (try simp only []); omega), g7.ext x (by (try simp only []); omega), g8.ext x (by intros; (try simp only []); omega)⟩) (fun y ys wu ⟨i, g1, g2, g3, g4, g5, g6, g7, g8⟩ => by
      have hy := head_drop g1.symm
      have hyl := (List.getElem?_eq_some_iff.1 hy).1
      have hml := g8.len
      have g4l := g4.lt
      refine YC.of_ret (args := [_]) (cap := [_, _, _, _]) ((rows1_c y i 31 _ _ _ _ wu g4 g5 g6 g7 g8 hy (by omega) (by omega) (by omega)).mono ?_) Try.call24
      rintro r wv ⟨rfl, q1, q2, qx⟩
      have e : ys = (l1.take 30).drop (i + 1) := by have := congrArg List.tail g1; rw [List.tail_drop] at this; exact this
      refine ⟨_, rfl, qx, fun h => ⟨i + 1, e, by omega, of_decide_eq_true h, q1, q2, g6.ext qx (by (try simp only []); omega), g7.ext qx (by (try simp only []); omega), g8.ext qx (by intros; (try simp only []); omega)⟩, fun h => ⟨i + 1, e, by omega, by have := of_decide_eq_false h; omega, q1, q2, g6.ext qx (by (try simp only []); omega), g7.ext qx (by (try simp only []); omega), g8.ext qx (by intros; (try simp only []); omega)⟩⟩)) Try.call52) _ _ _ _ _ _ _ _ _ rfl rfl) ?_
          rintro _ w30 ⟨rfl, ⟨ysq, hCq, hor⟩, hx30⟩
          have hx30' := hx30.size
          obtain ⟨iq, giq, gi1, gi2, gB1, gB2, gB3, gB4, gSl⟩ : ∃ iq : Nat, ysq = (l1.take 30).drop iq ∧ iq ≤ mq ∧ (iq = mq ∧ iq < 31 ∨ iq = 31) ∧ Blk w30 (w26.heap.size) [.bool true] 4 ∧ Blk w30 (w25.heap.size) [.int .i64 (iq : Int)] 3 ∧ Blk w30 (w.heap.size) [.slice A1 mq c1] 24 ∧ Blk w30 (w1.heap.size) [.int .i64 ((31 : Nat) : Int)] 3 ∧ Sl KTh 0 w.heap.size w30 A1 mq (l1.take 30) := by
            rcases hor with ⟨h1, i, h2, h3, h4, h5⟩ | ⟨i, h1, h2, h3, h4⟩
            · refine ⟨i, by rw [h1]; exact h2, h3, .inl ⟨?_, h4⟩, h5⟩
              have := congrArg List.length h2
              rw [List.length_drop, hsq.len] at this
              simp at this; omega
            · exact ⟨i, h1, h2, .inr h3, h4⟩
          refine X.opsEnd ?_
          refine X.seq ?_
          refine X.seq ?_
          refine X.region ?_
          refine X.opw X.wN rfl (X.load1B Try.isAgg4 gB1 rfl rfl) ?_
          refine X.opw X.wN rfl (X.not_ rfl) ?_
          refine X.opw X.wN rfl (X.move (v := .bool false) rfl) ?_
          refine X.opw (X.wG rfl rfl rfl) rfl (X.load1B Try.isAgg3 gB2 rfl rfl) ?_
          refine X.opw (X.wG rfl rfl rfl) rfl (X.load1B Try.isAgg24 gB3 rfl rfl) ?_
          refine X.opw (X.wG rfl rfl rfl) rfl (X.lenSl Try.underlying24 rfl) ?_
          refine X.opw (X.wG rfl rfl rfl) rfl (X.load1B Try.isAgg3 gB4 rfl rfl) ?_
          refine X.opw (X.wG rfl rfl rfl) rfl (minI rfl rfl) ?_
          refine X.opP (X.wG rfl rfl rfl) rfl rfl (X.neI rfl rfl) (fun h62 => ?_) (fun h62 => ?_)
          · exact absurd (by split <;> omega) h62
          · refine X.opw X.wN rfl (X.pickF (v := .bool false) rfl rfl) ?_
            refine X.opsEnd ?_
            refine X.condF rfl ?_
            refine X.skip ?_
            refine X.seq ?_
            refine X.region ?_
            refine X.opw X.wN rfl (X.move rfl) ?_
            refine X.opE X.wN rfl (X.callE (rest_b _ hCq (by omega) (fun k hk => by (try simp only [] at *); omega) (by rw [giq, List.length_drop]; have := hsq.len; omega)) Try.call15 rfl rfl) ?_
            rintro _ w31 ⟨v31, rfl, hM31, hx31⟩
            have hx31' := hx31.size
            refine X.opw X.wN rfl (X.move rfl) ?_
            refine X.opw X.wN rfl (X.extr rfl rfl) ?_
            refine X.opw X.wN rfl (X.extr rfl rfl) ?_
            refine X.opw X.wN rfl (X.assign rfl) ?_
            refine X.opw X.wN rfl (X.assign (v := .bool _) rfl) ?_
            refine X.opsEnd ?_
            refine X.seq ?_
            refine X.region ?_
            refine X.opw X.wN rfl (X.move (v := .bool true) rfl) ?_
            refine X.opw X.wN rfl (X.move (v := .bool true) rfl) ?_
            refine X.opw (X.wG rfl rfl rfl) rfl (X.move rfl) ?_
            refine X.opw (X.wG rfl rfl rfl) rfl (X.load1B Try.isAgg24 (gB3.ext hx31 (by intros; (try simp only []); omega)) rfl rfl) ?_
            refine X.opw (X.wG rfl rfl rfl) rfl (X.load1B Try.isAgg3 (gB2.ext hx31 (by intros; (try simp only []); omega)) rfl rfl) ?_
            refine X.opw (X.wG rfl rfl rfl) rfl (X.cutL Try.underlying24 Try.sizeOf29 rfl rfl (by omega)) ?_
            have q33 := hM31.slF KTh_flat 0 (fun _ _ => Nat.zero_le _)
            obtain ⟨A33, c33, rfl, hc33, hs33⟩ := q33
            refine X.opE (X.wG rfl rfl rfl) rfl (X.callE (Same_c _ hs33 ((gSl.drop iq c1 (by omega) (by omega)).ext hx31 (by intros; (try simp only []); omega))) Try.call22 rfl rfl) ?_
            rintro _ w32 ⟨rfl, hk32⟩
            have hk32' := hk32.size
            refine X.opw X.wN rfl (X.pickT (v := .bool _) rfl rfl) ?_
            refine X.opw X.wN rfl (X.move (v := .bool _) rfl) ?_
            refine X.forkO 77 rfl (fun h77 => ?_) (fun h77 => ?_)
            · refine X.opE (X.wG rfl rfl rfl) rfl (X.callE (alive_c _) Try.call14 rfl rfl) ?_
              rintro _ w34 ⟨rfl, hk34⟩
              have hk34' := hk34.size
              refine X.opw X.wN rfl (X.pickT (v := .bool _) rfl rfl) ?_
              refine X.opw X.wN rfl (X.assign (v := .bool _) rfl) ?_
              refine X.opsEnd ?_
              refine X.ret1 (v := (.bool _)) Try.func4 Try.results4 rfl ?_
              exact ⟨rfl, ((((((((((((((((((((hk1.trans hk2).trans hk3).step hx4 (by intros; (try simp only [] at *); omega)).trans hk5).step hx6 (by intros; (try simp only [] at *); omega)).trans hk7).step hx8 (by intros; (try simp only [] at *); omega)).trans hk9).trans hk11).trans hk13).trans hk14).step hx25 (by intros; (try simp only [] at *); omega)).trans hk26).trans hk27).step hx28 (by intros; (try simp only [] at *); omega)).step hx29 (by intros; (try simp only [] at *); omega)).step hx30 (by intros; (try simp only [] at *); omega)).step hx31 (by intros; (try simp only [] at *); omega)).trans hk32).trans hk34)⟩
            · rw [giq] at h77; simp at h77
        · obtain ⟨most, rfl⟩ : ∃ k : Nat, a = (k : Int) := ⟨a.toNat, by omega⟩
          refine X.opw X.wN rfl (X.pickF (v := .bool false) rfl rfl) ?_
          refine X.opsEnd ?_
          refine X.condF rfl ?_
          refine X.skip ?_
          refine X.seq ?_
          refine X.region ?_
          refine X.opE X.wN rfl (X.allocE Try.zeroValue3 rfl) ?_
          rintro _ w35 ⟨rfl, hB35, hk35, hz35⟩
          refine X.opE X.wN rfl (X.allocE Try.zeroValue4 rfl) ?_
          rintro _ w36 ⟨rfl, hB36, hk36, hz36⟩
          refine X.opE X.wN rfl (X.storeE Try.sizeOf3 (hB35.keep hk36) rfl rfl rfl rfl) ?_
          rintro _ w37 ⟨hB37, hx37, hz37⟩
          refine X.opE X.wN rfl (X.storeE Try.sizeOf4 (hB36.ext hx37 (by intros; (try simp only []); omega)) rfl rfl rfl rfl) ?_
          rintro _ w38 ⟨hB38, hx38, hz38⟩
          refine X.opsEnd ?_
          refine X.seq ?_
          refine X.region ?_
          refine X.opw X.wN rfl (X.move rfl) ?_
          refine X.opw X.wN rfl (X.mkFunc rfl) ?_
          refine X.opE X.wN rfl ((YC.of_ret (args := [_]) (cap := [_]) (all1_c (.func (.func 24) #[] #[ptrV (w35.heap.size), ptrV (w14.heap.size), ptrV (w.heap.size), ptrV (w1.heap.size)]) _ (w13.heap.size) w.heap.size _ (fun k => k = w35.heap.size ∨ k = w14.heap.size) (fun ys w' => ∃ i : Nat, ys = (l1.take 30).drop i ∧ i ≤ mq ∧ i < most ∧ Blk w' (w35.heap.size) [.bool true] 4 ∧ Blk w' (w14.heap.size) [.int .i64 (i : Int)] 3 ∧ Blk w' (w.heap.size) [.slice A1 mq c1] 24 ∧ Blk w' (w1.heap.size) [.int .i64 ((most : Nat) : Int)] 3 ∧ Sl KTh 0 w.heap.size w' A1 mq (l1.take 30)) (fun ys w' => ∃ i : Nat, ys = (l1.take 30).drop i ∧ i ≤ mq ∧ i = most ∧ Blk w' (w35.heap.size) [.bool true] 4 ∧ Blk w' (w14.heap.size) [.int .i64 (i : Int)] 3 ∧ Blk w' (w.heap.size) [.slice A1 mq c1] 24 ∧ Blk w' (w1.heap.size) [.int .i64 ((most : Nat) : Int)] 3 ∧ Sl KTh 0 w.heap.size w' A1 mq (l1.take 30)) _ (hB14.keep (((hk35.trans hk36).step hx37 (by intros; (try simp only [] at *); omega)).step hx38 (by intros; (try simp only [] at *); omega))) (CV.cur (hC13.keep ((((hk14.trans hk35).trans hk36).step hx37 (by intros; (try simp only [] at *); omega)).step hx38 (by intros; (try simp only [] at *); omega)))) (by omega) (fun k hk => by (try simp only [] at *); omega) (by (try simp only []); omega) (by (try simp only []); omega) (fun k hk => by (try simp only [] at *); omega) ⟨0, rfl, Nat.zero_le _, by omega, hB38, (hB37.ext hx38 (by intros; (try simp only []); omega)), (((((hB4.keep hk5).ext hx6 (by intros; (try simp only []); omega)).keep hk7).ext hx8 (by intros; (try simp only []); omega)).keep (((((((hk9.trans hk11).trans hk13).trans hk14).trans hk35).trans hk36).step hx37 (by intros; (try simp only [] at *); omega)).step hx38 (by intros; (try simp only [] at *); omega))), (((((((hB2.keep hk3).ext hx4 (by intros; (try simp only []); omega)).keep hk5).ext hx6 (by intros; (try simp only []); omega)).keep hk7).ext hx8 (by intros; (try simp only []); omega)).keep (((((((hk9.trans hk11).trans hk13).trans hk14).trans hk35).trans hk36).step hx37 (by intros; (try simp only [] at *); omega)).step hx38 (by intros; (try simp only [] at *); omega))), ((((((hsq.ext hx4 (by intros; (try simp only []); omega)).keep hk5).ext hx6 (by intros; (try simp only []); omega)).keep hk7).ext hx8 (by intros; (try simp only []); omega)).keep (((((((hk9.trans hk11).trans hk13).trans hk14).trans hk35).trans hk36).step hx37 (by intros; (try simp only [] at *); omega)).step hx38 (by intros; (try simp only [] at *); omega)))⟩ (fun ys wu wv ⟨i, g1, g2, g3, g4, g5, g6, g7, g8⟩ x => ⟨i, g1, g2, g3, g4.ext x (by (try simp only []); omega), g5.ext x (by (try simp only []); omega), g6.ext x (by (try simp only []); omega), g7.ext x (by (try simp only []); omega), g8.ext x (by intros; (try simp only []); omega)⟩) (fun y ys wu ⟨i, g1, g2, g3, g4, g5, g6, g7, g8⟩ => by
      have hy := head_drop g1.symm
      have hyl := (List.getElem?_eq_some_iff.1 hy).1
      have hml := g8.len
      have g4l := g4.lt
      refine YC.of_ret (args := [_]) (cap := [_, _, _, _]) ((rows1_c y i most _ _ _ _ wu g4 g5 g6 g7 g8 hy (by omega) (by omega) (by omega)).mono ?_) Try.call24
      rintro r wv ⟨rfl, q1, q2, qx⟩
      have e : ys = (l1.take 30).drop (i + 1) := by have := congrArg List.tail g1; rw [List.tail_drop] at this; exact this
      refine ⟨_, rfl, qx, fun h => ⟨i + 1, e, by omega, of_decide_eq_true h, q1, q2, g6.ext qx (by (try simp only []); omega), g7.ext qx (by (try simp only []); omega), g8.ext qx (by intros; (try simp only []); omega)⟩, fun h => ⟨i + 1, e, by omega, by have := of_decide_eq_false h; omega, q1, q2, g6.ext qx (by (try simp only []); omega), g7.ext qx (by (try simp only []); omega), g8.ext qx (by intros; (try simp only []); omega)⟩⟩)) Try.call52) _ _ _ _ _ _ _ _ _ rfl rfl) ?_
          rintro _ w39 ⟨rfl, ⟨ysq, hCq, hor⟩, hx39⟩
          have hx39' := hx39.size
          obtain ⟨iq, giq, gi1, gi2, gB1, gB2, gB3, gB4, gSl⟩ : ∃ iq : Nat, ysq = (l1.take 30).drop iq ∧ iq ≤ mq ∧ (iq = mq ∧ iq < most ∨ iq = most) ∧ Blk w39 (w35.heap.size) [.bool true] 4 ∧ Blk w39 (w14.heap.size) [.int .i64 (iq : Int)] 3 ∧ Blk w39 (w.heap.size) [.slice A1 mq c1] 24 ∧ Blk w39 (w1.heap.size) [.int .i64 ((most : Nat) : Int)] 3 ∧ Sl KTh 0 w.heap.size w39 A1 mq (l1.take 30) := by
            rcases hor with ⟨h1, i, h2, h3, h4, h5⟩ | ⟨i, h1, h2, h3, h4⟩
            · refine ⟨i, by rw [h1]; exact h2, h3, .inl ⟨?_, h4⟩, h5⟩
              have := congrArg List.length h2
              rw [List.length_drop, hsq.len] at this
              simp at this; omega
            · exact ⟨i, h1, h2, .inr h3, h4⟩
          refine X.opsEnd ?_
          refine X.seq ?_
          refine X.seq ?_
          refine X.region ?_
          refine X.opw X.wN rfl (X.load1B Try.isAgg4 gB1 rfl rfl) ?_
          refine X.opw X.wN rfl (X.not_ rfl) ?_
          refine X.opw X.wN rfl (X.move (v := .bool false) rfl) ?_
          refine X.opw (X.wG rfl rfl rfl) rfl (X.load1B Try.isAgg3 gB2 rfl rfl) ?_
          refine X.opw (X.wG rfl rfl rfl) rfl (X.load1B Try.isAgg24 gB3 rfl rfl) ?_
          refine X.opw (X.wG rfl rfl rfl) rfl (X.lenSl Try.underlying24 rfl) ?_
          refine X.opw (X.wG rfl rfl rfl) rfl (X.load1B Try.isAgg3 gB4 rfl rfl) ?_
          refine X.opw (X.wG rfl rfl rfl) rfl (minI rfl rfl) ?_
          refine X.opP (X.wG rfl rfl rfl) rfl rfl (X.neI rfl rfl) (fun h62 => ?_) (fun h62 => ?_)
          · exact absurd (by split <;> omega) h62
          · refine X.opw X.wN rfl (X.pickF (v := .bool false) rfl rfl) ?_
            refine X.opsEnd ?_
            refine X.condF rfl ?_
            refine X.skip ?_
            refine X.seq ?_
            refine X.region ?_
            refine X.opw X.wN rfl (X.move rfl) ?_
            refine X.opE X.wN rfl (X.callE (rest_b _ hCq (by omega) (fun k hk => by (try simp only [] at *); omega) (by rw [giq, List.length_drop]; have := hsq.len; omega)) Try.call15 rfl rfl) ?_
            rintro _ w40 ⟨v40, rfl, hM40, hx40⟩
            have hx40' := hx40.size
            refine X.opw X.wN rfl (X.move rfl) ?_
            refine X.opw X.wN rfl (X.extr rfl rfl) ?_
            refine X.opw X.wN rfl (X.extr rfl rfl) ?_
            refine X.opw X.wN rfl (X.assign rfl) ?_
            refine X.opw X.wN rfl (X.assign (v := .bool _) rfl) ?_
            refine X.opsEnd ?_
            refine X.seq ?_
            refine X.region ?_
            refine X.opw X.wN rfl (X.move (v := .bool true) rfl) ?_
            refine X.opw X.wN rfl (X.move (v := .bool true) rfl) ?_
            refine X.opw (X.wG rfl rfl rfl) rfl (X.move rfl) ?_
            refine X.opw (X.wG rfl rfl rfl) rfl (X.load1B Try.isAgg24 (gB3.ext hx40 (by intros; (try simp only []); omega)) rfl rfl) ?_
            refine X.opw (X.wG rfl rfl rfl) rfl (X.load1B Try.isAgg3 (gB2.ext hx40 (by intros; (try simp only []); omega)) rfl rfl) ?_
            refine X.opw (X.wG rfl rfl rfl) rfl (X.cutL Try.underlying24 Try.sizeOf29 rfl rfl (by omega)) ?_
            have q42 := hM40.slF KTh_flat 0 (fun _ _ => Nat.zero_le _)
            obtain ⟨A42, c42, rfl, hc42, hs42⟩ := q42
            refine X.opE (X.wG rfl rfl rfl) rfl (X.callE (Same_c _ hs42 ((gSl.drop iq c1 (by omega) (by omega)).ext hx40 (by intros; (try simp only []); omega))) Try.call22 rfl rfl) ?_
            rintro _ w41 ⟨rfl, hk41⟩
            have hk41' := hk41.size
            refine X.opw X.wN rfl (X.pickT (v := .bool _) rfl rfl) ?_
            refine X.opw X.wN rfl (X.move (v := .bool _) rfl) ?_
            refine X.forkO 77 rfl (fun h77 => ?_) (fun h77 => ?_)
            · refine X.opE (X.wG rfl rfl rfl) rfl (X.callE (alive_c _) Try.call14 rfl rfl) ?_
              rintro _ w43 ⟨rfl, hk43⟩
              have hk43' := hk43.size
              refine X.opw X.wN rfl (X.pickT (v := .bool _) rfl rfl) ?_
              refine X.opw X.wN rfl (X.assign (v := .bool _) rfl) ?_
              refine X.opsEnd ?_
              refine X.ret1 (v := (.bool _)) Try.func4 Try.results4 rfl ?_
              exact ⟨rfl, (((((((((((((((((((hk1.trans hk2).trans hk3).step hx4 (by intros; (try simp only [] at *); omega)).trans hk5).step hx6 (by intros; (try simp only [] at *); omega)).trans hk7).step hx8 (by intros; (try simp only [] at *); omega)).trans hk9).trans hk11).trans hk13).trans hk14).trans hk35).trans hk36).step hx37 (by intros; (try simp only [] at *); omega)).step hx38 (by intros; (try simp only [] at *); omega)).step hx39 (by intros; (try simp only [] at *); omega)).step hx40 (by intros; (try simp only [] at *); omega)).trans hk41).trans hk43)⟩
            · rw [giq] at h77; simp at h77
end Go.Proofs.Ytgfficbkajcdpaa

namespace Go.Proofs.Ytgfficbkajcdpaa
open Go Go.Proofs.Ytgfficbkajcdpaa.X
set_option linter.unusedVariables false
set_option linter.unusedSimpArgs false
-- f45 "pedigree/merge.none[pedigree/pedigreeref09.Thing]" params [] results [33] -> [(ResultVar.tmp 0)] nfree
set_option maxHeartbeats 4000000 in
set_option maxRecDepth 100000 in
theorem none_c (B : Nat) (w : World) (hB : B ≤ w.heap.size) : Ret Try.prog 45 #[] w fun r w' => (∃ p', r = .iface 84 p') ∧ CV B (fun k => w.heap.size ≤ k ∧ k < w'.heap.size) r [] w' ∧ Keep w w' := by
  refine X.enter Try.func45 rfl Try.ntmps45 rfl ?_
  refine X.seq ?_
  refine X.region ?_
  refine X.opw X.wN rfl (X.assign rfl) ?_
  refine X.opsEnd ?_
  refine X.seq ?_
  refine X.region ?_
  refine X.opw X.wN rfl (X.buildB (vs := [(1, .bool true)]) (cs := #[.nilFunc, .bool true]) rfl (by kernel_rfl)) ?_
  refine X.opE X.wN rfl (X.boxE rfl rfl) ?_
  rintro _ w1 ⟨rfl, hB1, hk1, hz1⟩
  refine X.opw X.wN rfl (X.mkIface Try.underlying84 rfl rfl) ?_
  refine X.opw X.wN rfl (X.assign rfl) ?_
  refine X.opsEnd ?_
  refine X.ret1 Try.func45 Try.results45 rfl ?_
  exact ⟨⟨_, rfl⟩, .inr ⟨_, rfl, (Cur.none hB1 (fun w h => next_over _ _ w h)).wide (fun k hk => by (try simp only [] at *); omega)⟩, hk1⟩
-- f26 "pedigree/merge.Once[pedigree/pedigreeref09.Thing]" params [35, 33] results [33] -> [(ResultVar.tmp 4)]
set_option maxHeartbeats 4000000 in
set_option maxRecDepth 100000 in
theorem OnceN_c (B : Nat) (c : Value) (w : World) (hB : B ≤ w.heap.size) : Ret Try.prog 26 #[.nilFunc, .iface 84 c] w fun r w' => (∃ p', r = .iface 84 p') ∧ CV B (fun k => w.heap.size ≤ k ∧ k < w'.heap.size) r [] w' ∧ Keep w w' := by
  refine X.enter Try.func26 rfl Try.ntmps26 rfl ?_
  refine X.seq ?_
  refine X.region ?_
  refine X.opE X.wN rfl (X.boxE rfl rfl) ?_
  rintro _ w1 ⟨rfl, hB1, hk1, hz1⟩
  refine X.opE X.wN rfl (X.boxE rfl rfl) ?_
  rintro _ w2 ⟨rfl, hB2, hk2, hz2⟩
  refine X.opw X.wN rfl (X.assign rfl) ?_
  refine X.opsEnd ?_
  refine X.seq ?_
  refine X.seq ?_
  refine X.region ?_
  refine X.opw X.wN rfl (X.load1B Try.isAgg35 (hB1.keep hk2) rfl rfl) ?_
  refine X.opw X.wN rfl (X.eqFn0 Try.underlying35 rfl rfl) ?_
  refine X.opw X.wN rfl (X.move (v := .bool true) rfl) ?_
  refine X.opS rfl rfl rfl rfl rfl ?_
  refine X.opS rfl rfl rfl rfl rfl ?_
  refine X.opw X.wN rfl (X.pickT (v := .bool true) rfl rfl) ?_
  refine X.opsEnd ?_
  refine X.condT rfl ?_
  refine X.seq ?_
  refine X.region ?_
  refine X.opE X.wN rfl (X.callE (none_c B _ (by omega)) Try.call45 rfl rfl) ?_
  rintro _ w3 ⟨⟨p3, rfl⟩, hC3, hk3⟩
  have hk3' := hk3.size
  refine X.opw X.wN rfl (X.assign rfl) ?_
  refine X.opsEnd ?_
  refine X.ret1 Try.func26 Try.results26 rfl ?_
  exact ⟨⟨_, rfl⟩, (hC3).wide (fun k hk => by (try simp only [] at *); omega), ((hk1.trans hk2).trans hk3)⟩
-- f33 "pedigree/merge.Only[pedigree/pedigreeref09.Thing]" params [46, 33] results [33] -> [(ResultVar.tmp 4)]
set_option maxHeartbeats 4000000 in
set_option maxRecDepth 100000 in
theorem OnlyN_c (B : Nat) (c : Value) (w : World) (hB : B ≤ w.heap.size) : Ret Try.prog 33 #[.nilFunc, .iface 84 c] w fun r w' => (∃ p', r = .iface 84 p') ∧ CV B (fun k => w.heap.size ≤ k ∧ k < w'.heap.size) r [] w' ∧ Keep w w' := by
  refine X.enter Try.func33 rfl Try.ntmps33 rfl ?_
  refine X.seq ?_
  refine X.region ?_
  refine X.opE X.wN rfl (X.boxE rfl rfl) ?_
  rintro _ w1 ⟨rfl, hB1, hk1, hz1⟩
  refine X.opE X.wN rfl (X.boxE rfl rfl) ?_
  rintro _ w2 ⟨rfl, hB2, hk2, hz2⟩
  refine X.opw X.wN rfl (X.assign rfl) ?_
  refine X.opsEnd ?_
  refine X.seq ?_
  refine X.seq ?_
  refine X.region ?_
  refine X.opw X.wN rfl (X.load1B Try.isAgg46 (hB1.keep hk2) rfl rfl) ?_
  refine X.opw X.wN rfl (X.eqFn0 Try.underlying46 rfl rfl) ?_
  refine X.opw X.wN rfl (X.move (v := .bool true) rfl) ?_
  refine X.opS rfl rfl rfl rfl rfl ?_
  refine X.opS rfl rfl rfl rfl rfl ?_
  refine X.opw X.wN rfl (X.pickT (v := .bool true) rfl rfl) ?_
  refine X.opsEnd ?_
  refine X.condT rfl ?_
  refine X.seq ?_
  refine X.region ?_
  refine X.opE X.wN rfl (X.callE (none_c B _ (by omega)) Try.call45 rfl rfl) ?_
  rintro _ w3 ⟨⟨p3, rfl⟩, hC3, hk3⟩
  have hk3' := hk3.size
  refine X.opw X.wN rfl (X.assign rfl) ?_
  refine X.opsEnd ?_
  refine X.ret1 Try.func33 Try.results33 rfl ?_
  exact ⟨⟨_, rfl⟩, (hC3).wide (fun k hk => by (try simp only [] at *); omega), ((hk1.trans hk2).trans hk3)⟩
-- f34 "pedigree/merge.First[pedigree/pedigreeref09.Thing]" params [3, 33] results [33] -> [(ResultVar.tmp 4)]
set_option maxHeartbeats 4000000 in
set_option maxRecDepth 100000 in
theorem FirstN_c (B : Nat) (a : Int) (w : World) (hB : B ≤ w.heap.size) : Ret Try.prog 34 #[.int .i64 a, .nilIface] w fun r w' => (∃ p', r = .iface 84 p') ∧ CV B (fun k => w.heap.size ≤ k ∧ k < w'.heap.size) r [] w' ∧ Keep w w' := by
  refine X.enter Try.func34 rfl Try.ntmps34 rfl ?_
  refine X.seq ?_
  refine X.region ?_
  refine X.opE X.wN rfl (X.boxE rfl rfl) ?_
  rintro _ w1 ⟨rfl, hB1, hk1, hz1⟩
  refine X.opE X.wN rfl (X.boxE rfl rfl) ?_
  rintro _ w2 ⟨rfl, hB2, hk2, hz2⟩
  refine X.opw X.wN rfl (X.assign rfl) ?_
  refine X.opsEnd ?_
  refine X.seq ?_
  refine X.seq ?_
  refine X.region ?_
  refine X.opw X.wN rfl (X.load1B Try.isAgg33 hB2 rfl rfl) ?_
  refine X.opw X.wN rfl (X.eqIf0 Try.underlying33 rfl rfl) ?_
  refine X.opsEnd ?_
  refine X.condT rfl ?_
  refine X.seq ?_
  refine X.region ?_
  refine X.opE X.wN rfl (X.callE (none_c B _ (by omega)) Try.call45 rfl rfl) ?_
  rintro _ w3 ⟨⟨p3, rfl⟩, hC3, hk3⟩
  have hk3' := hk3.size
  refine X.opw X.wN rfl (X.assign rfl) ?_
  refine X.opsEnd ?_
  refine X.ret1 Try.func34 Try.results34 rfl ?_
  exact ⟨⟨_, rfl⟩, (hC3).wide (fun k hk => by (try simp only [] at *); omega), ((hk1.trans hk2).trans hk3)⟩
-- f54 "pedigree/merge.held[pedigree/pedigreeref09.Thing]" params [35, 33, 33, 4] results [33] -> [(ResultVar.
set_option maxHeartbeats 4000000 in
set_option maxRecDepth 100000 in
theorem heldN_c (B : Nat) (t : Bool) {y : Value} {fn : Fn} {bs ca : Array Value} (w : World) (hB : B ≤ w.heap.size) : Ret Try.prog 54 #[.func fn bs ca, .nilIface, y, .bool t] w fun r w' => (∃ p', r = .iface 84 p') ∧ CV B (fun k => w.heap.size ≤ k ∧ k < w'.heap.size) r [] w' ∧ Keep w w' := by
  refine X.enter Try.func54 rfl Try.ntmps54 rfl ?_
  refine X.seq ?_
  refine X.region ?_
  refine X.opE X.wN rfl (X.boxE rfl rfl) ?_
  rintro _ w1 ⟨rfl, hB1, hk1, hz1⟩
  refine X.opE X.wN rfl (X.boxE rfl rfl) ?_
  rintro _ w2 ⟨rfl, hB2, hk2, hz2⟩
  refine X.opE X.wN rfl (X.boxE rfl rfl) ?_
  rintro _ w3 ⟨rfl, hB3, hk3, hz3⟩
  refine X.opw X.wN rfl (X.assign rfl) ?_
  refine X.opsEnd ?_
  refine X.seq ?_
  refine X.seq ?_
  refine X.region ?_
  refine X.opw X.wN rfl (X.load1B Try.isAgg35 (hB1.keep (hk2.trans hk3)) rfl rfl) ?_
  refine X.opw X.wN rfl (X.eqFn1 Try.underlying35 rfl rfl) ?_
  refine X.opw X.wN rfl (X.move (v := .bool false) rfl) ?_
  refine X.opw (X.wG rfl rfl rfl) rfl (X.load1B Try.isAgg33 (hB2.keep hk3) rfl rfl) ?_
  refine X.opw (X.wG rfl rfl rfl) rfl (X.eqIf0 Try.underlying33 rfl rfl) ?_
  refine X.opw X.wN rfl (X.pickF (v := .bool true) rfl rfl) ?_
  refine X.opsEnd ?_
  refine X.condT rfl ?_
  refine X.seq ?_
  refine X.region ?_
  refine X.opE X.wN rfl (X.callE (none_c B _ (by omega)) Try.call45 rfl rfl) ?_
  rintro _ w4 ⟨⟨p4, rfl⟩, hC4, hk4⟩
  have hk4' := hk4.size
  refine X.opw X.wN rfl (X.assign rfl) ?_
  refine X.opsEnd ?_
  refine X.ret1 Try.func54 Try.results54 rfl ?_
  exact ⟨⟨_, rfl⟩, (hC4).wide (fun k hk => by (try simp only [] at *); omega), (((hk1.trans hk2).trans hk3).trans hk4)⟩
-- f28 "pedigree/merge.Both[pedigree/pedigreeref09.Thing]" params [35, 33, 33] results [33] -> [(ResultVar.tmp
set_option maxHeartbeats 4000000 in
set_option maxRecDepth 100000 in
theorem BothN_c (B : Nat) {y : Value} {fn : Fn} {bs ca : Array Value} (w : World) (hB : B ≤ w.heap.size) : Ret Try.prog 28 #[.func fn bs ca, .nilIface, y] w fun r w' => (∃ p', r = .iface 84 p') ∧ CV B (fun k => w.heap.size ≤ k ∧ k < w'.heap.size) r [] w' ∧ Keep w w' := by
  refine X.enter Try.func28 rfl Try.ntmps28 rfl ?_
  refine X.seq ?_
  refine X.region ?_
  refine X.opw X.wN rfl (X.assign rfl) ?_
  refine X.opsEnd ?_
  refine X.seq ?_
  refine X.region ?_
  refine X.opw X.wN rfl (X.move rfl) ?_
  refine X.opw X.wN rfl (X.move rfl) ?_
  refine X.opw X.wN rfl (X.move rfl) ?_
  refine X.opE X.wN rfl (X.callE (heldN_c B true _ hB) Try.call54 rfl rfl) ?_
  rintro _ w1 ⟨⟨p1, rfl⟩, hC1, hk1⟩
  have hk1' := hk1.size
  refine X.opw X.wN rfl (X.assign rfl) ?_
  refine X.opsEnd ?_
  refine X.ret1 Try.func28 Try.results28 rfl ?_
  exact ⟨⟨_, rfl⟩, (hC1).wide (fun k hk => by (try simp only [] at *); omega), hk1⟩
/-- One list alone. -/
theorem mg_one {i : Nat} : ∀ (t n : Nat) (L : Nat → List TH), totL L n = t → i < n → (∀ j, j < n → j ≠ i → L j = []) → mgC n L = L i
  | 0, n, L, h, hi, _ => by
    have : (L i).length = 0 := by
      have key : ∀ m, i < m → (L i).length ≤ totL L m := by
        intro m
        induction m with
        | zero => intro h; omega
        | succ m ih =>
          intro h
          rw [totL]
          by_cases e : i = m
          · subst e; omega
          · have := ih (by omega); omega
      have := key n hi
      omega
    rw [mgC, h, List.eq_nil_of_length_eq_zero this]; rfl
  | t + 1, n, L, h, hi, hz => by
    cases hp : pk L n with
    | none => rw [mgC_none hp, pk_none hp i hi]
    | some q =>
      obtain ⟨j, x⟩ := q
      obtain ⟨h1, l, h2⟩ := pk_some hp
      have hji : j = i := by
        by_cases e : j = i
        · exact e
        · rw [hz j h1 e] at h2; cases h2
      subst hji
      have ht := totL_upd h2 n
      rw [if_pos h1] at ht
      rw [mgC_some hp, mg_one t n (updL L j) (by omega) hi (fun k hk hne => by rw [updL, if_neg hne]; exact hz k hk hne), updL, if_pos rfl, h2]
      rfl
end Go.Proofs.Ytgfficbkajcdpaa

namespace Go.Proofs.Ytgfficbkajcdpaa
open Go Go.Proofs.Ytgfficbkajcdpaa.X
set_option linter.unusedVariables false
set_option linter.unusedSimpArgs false
-- f52 "pedigree/merge.All[pedigree/pedigreeref09.Thing]$1" params [46] results [] -> [] nfree 1 ntmps 20 name
set_option maxHeartbeats 4000000 in
set_option maxRecDepth 100000 in
theorem all1N_c (yv : Value) (bl : Nat) (w : World) (hB : Blk w bl [.nilIface] 33) : Ret Try.prog 52 #[yv, .pointer (some ⟨bl, 0, none⟩)] w fun v w' => v = .tuple #[] ∧ Keep w w' := by
  refine X.enter Try.func52 rfl Try.ntmps52 rfl ?_
  refine X.block ?_
  -- LOOP live: 0=yield, 1
  refine X.loopL (σ := Unit) (fun s => [(0, yv), (1, .pointer (some ⟨bl, 0, none⟩))]) (fun s w' => Blk w' bl [.nilIface] 33 ∧ Keep w w') (fun s => 0) () ⟨rfl, rfl, trivial⟩ ⟨hB, Keep.refl _⟩ ?_
  rintro _ b0 wl ⟨hBl, hk⟩ hback
  refine X.seq ?_
  refine X.seq ?_
  refine X.region ?_
  refine X.opw X.wN rfl (X.load1B Try.isAgg33 hBl rfl rfl) ?_
  refine X.opw X.wN rfl (X.neIf0 Try.underlying33 rfl rfl) ?_
  refine X.opsEnd ?_
  refine X.condF rfl ?_
  refine X.exit rfl ?_
  refine X.end0 Try.func52 Try.results52 ?_
  exact ⟨rfl, hk⟩
-- f23 "pedigree/merge.All[pedigree/pedigreeref09.Thing]" params [33] results [44] -> [(ResultVar.tmp 2)] nfre
set_option maxHeartbeats 4000000 in
set_option maxRecDepth 100000 in
theorem AllN_c (w : World) : Ret Try.prog 23 #[.nilIface] w fun r w' => r = .func (.func 52) #[] #[.pointer (some ⟨w.heap.size, 0, none⟩)] ∧ Blk w' w.heap.size [.nilIface] 33 ∧ Keep w w' ∧ w'.heap.size = w.heap.size + 1 := by
  refine X.enter Try.func23 rfl Try.ntmps23 rfl ?_
  refine X.seq ?_
  refine X.region ?_
  refine X.opE X.wN rfl (X.boxE rfl rfl) ?_
  rintro _ w1 ⟨rfl, hB1, hk1, hz1⟩
  refine X.opw X.wN rfl (X.assign rfl) ?_
  refine X.opsEnd ?_
  refine X.seq ?_
  refine X.region ?_
  refine X.opw X.wN rfl (X.mkFunc rfl) ?_
  refine X.opw X.wN rfl (X.assign rfl) ?_
  refine X.opsEnd ?_
  refine X.ret1 Try.func23 Try.results23 rfl ?_
  exact ⟨rfl, hB1, hk1, by omega⟩
-- f21 "pedigree/merge.Rest[pedigree/pedigreeref09.Thing]" params [33] results [24] -> [(ResultVar.tmp 2)] nfr
set_option maxHeartbeats 4000000 in
set_option maxRecDepth 100000 in
theorem RestN_c (w : World) : Ret Try.prog 21 #[.nilIface] w fun v w' => v = .slice none 0 0 ∧ Keep w w' := by
  refine X.enter Try.func21 rfl Try.ntmps21 rfl ?_
  refine X.seq ?_
  refine X.region ?_
  refine X.opw X.wN rfl (X.assign rfl) ?_
  refine X.opsEnd ?_
  refine X.seq ?_
  refine X.region ?_
  refine X.opE X.wN rfl (X.allocE Try.zeroValue24 rfl) ?_
  rintro _ w1 ⟨rfl, hB1, hk1, hz1⟩
  refine X.opsEnd ?_
  refine X.seq ?_
  refine X.seq ?_
  refine X.region ?_
  refine X.opw X.wN rfl (X.move rfl) ?_
  refine X.opE X.wN rfl (X.callE (AllN_c _) Try.call23 rfl rfl) ?_
  rintro _ w2 ⟨rfl, hB2, hk2, hz2⟩
  refine X.opsEnd ?_
  refine X.block ?_
  refine X.rangeFunc' (cap := [.pointer (some ⟨w1.heap.size, 0, none⟩)]) (Q := fun w' => Blk w' w.heap.size [.slice none 0 0] 24 ∧ w'.heap[w2.heap.size]? = some (.deferred (some [])) ∧ Keep w w' ∧ w2.heap.size + 2 ≤ w'.heap.size) rfl Try.call52 rfl rfl (fun rec wq T0 hr1 hr2 hr3 hr4 hrT hr5 hr6 hr7 hrl hrd kq zq => ?_) ?_
  · refine (all1N_c _ _ wq (hB2.keep kq)).mono ?_
    rintro v wz ⟨_, hkz⟩
    have hkz' := hkz.size
    exact ⟨⟨rec, (hkz.keep _ (Array.getElem?_eq_some_iff.1 hrl).1 id).trans hrl, by rw [hr1]; simp, hr2⟩, ((hB1.keep hk2).keep kq).keep hkz, (hkz.keep _ (Array.getElem?_eq_some_iff.1 hrd).1 id).trans hrd, ((hk1.trans hk2).trans kq).trans hkz, by omega⟩
  · rintro wz we ⟨h2, h5, hkq, h6⟩ hxe hze
    obtain ⟨hdf, _⟩ := Array.getElem?_eq_some_iff.1 h5
    refine X.inBlock ?_
    refine X.seq ?_
    refine X.region ?_
    refine X.opw X.wN rfl (X.load1B Try.isAgg24 (h2.ext hxe (by intros; (try simp only []); omega)) rfl rfl) ?_
    refine X.opw X.wN rfl (X.assign rfl) ?_
    refine X.opsEnd ?_
    refine X.ret_unw ?_
    refine X.collected' (by simp) ((hxe.keep _ (by omega) (by (try simp only []); omega)).trans h5) (fun wf hxf hzf => ?_)
    refine X.unwT1 Try.func21 Try.results21 rfl ?_
    exact ⟨rfl, ((hkq.step hxe (by intros; (try simp only [] at *); omega)).step hxf (by intros; (try simp only [] at *); omega))⟩
end Go.Proofs.Ytgfficbkajcdpaa

namespace Go.Proofs.Ytgfficbkajcdpaa
open Go Go.Proofs.Ytgfficbkajcdpaa.X
set_option linter.unusedVariables false
set_option linter.unusedSimpArgs false
/-- A counted tuple as its cells: where the tuple lies, and the count. -/
abbrev CT := (Option Addr × Nat × Nat) × Int
abbrev evC (x : CT) : Value := .agg #[.slice x.1.1 x.1.2.1 x.1.2.2, .int .i64 x.2]
abbrev zC : CT := ((none, 0, 0), 0)
def KCt : Kd CT := Kd.plain 2 (fun x => [.slice x.1.1 x.1.2.1 x.1.2.2, .int .i64 x.2]) (fun _ => True) (fun _ => rfl) (fun _ u hu => by simp at hu; rcases hu with rfl | rfl <;> rfl)
theorem KCt_flat : Flat KCt := fun h => h
theorem repsC {w : World} (x : CT) : RepsV KCt w [x] [evC x] := ⟨⟨_, rfl, rfl, trivial⟩, trivial⟩
theorem ECt : ElemInfo Try.prog 70 2 32 := ElemInfo.of (z := .agg #[.slice none 0 0, .int .i64 0]) (by kernel_rfl) rfl rfl rfl
-- f100 "(*pedigree/merge.made[pedigree/api.Counted]).Next" params [108] results [70, 4] -> [(ResultVar.cell 2
set_option maxHeartbeats 4000000 in
set_option maxRecDepth 100000 in
theorem nextc_over (fv : Value) (bm : Nat) (w : World) (hB : Blk w bm [fv, .bool true] 110) : Ret Try.prog 100 #[.pointer (some ⟨bm, 0, none⟩)] w fun r w' => r = hdV evC zC [] ∧ Keep w w' := by
  refine X.enter Try.func100 rfl Try.ntmps100 rfl ?_
  refine X.seq ?_
  refine X.region ?_
  refine X.opE X.wN rfl (X.allocE Try.zeroValue70 rfl) ?_
  rintro _ w1 ⟨rfl, hB1, hk1, hz1⟩
  refine X.opw X.wN rfl (X.assign rfl) ?_
  refine X.opsEnd ?_
  refine X.seq ?_
  refine X.seq ?_
  refine X.region ?_
  refine X.opw X.wN rfl (X.move rfl) ?_
  refine X.opw X.wN rfl (X.nilCk rfl) ?_
  refine X.opw X.wN rfl (X.fldB (j := 1) Try.underlying110 rfl rfl Try.sizeOf4 rfl) ?_
  refine X.opw X.wN rfl (X.load1B Try.isAgg4 (hB.keep hk1) rfl rfl) ?_
  refine X.opsEnd ?_
  refine X.condB rfl (fun hc => ?_) (fun hc => ?_)
  · refine X.seq ?_
    refine X.region ?_
    refine X.opw X.wN rfl (X.loadNB Try.isAgg70 Try.sizeOf70 hB1 rfl rfl rfl) ?_
    refine X.opE X.wN rfl (X.storeNE Try.sizeOf70 hB1 rfl rfl rfl rfl (fun u hu => by simp at hu; rcases hu with rfl | rfl <;> rfl)) ?_
    rintro _ w2 ⟨hB2, hx2, hz2⟩
    refine X.opw X.wN rfl (X.assign rfl) ?_
    refine X.opsEnd ?_
    refine X.ret_unw (X.unwR2 Try.func100 Try.results100 (X.ResOk.cell rfl (X.lvN Try.isAgg70 Try.sizeOf70 hB2 rfl)) (show X.ResOk _ _ _ (.tmp 3) (.bool _) from rfl) ?_)
    exact ⟨rfl, (hk1.step hx2 (by intros; (try simp only [] at *); omega))⟩
  · cases hc
-- f100 "(*pedigree/merge.made[pedigree/api.Counted]).Next" params [108] results [70, 4] -> [(ResultVar.cell 2
set_option maxHeartbeats 4000000 in
set_option maxRecDepth 100000 in
theorem nextc_step (fv : Value) (bm : Nat) (T : Nat → Prop) (hTm : ¬ T bm) (xs : List _) (w : World) (R : World → Prop) (hTb : ∀ k, T k → k < w.heap.size) (hB : Blk w bm [fv, .bool false] 110) (hcall : ∀ wa, Keep w wa → YC Try.prog fv [] wa fun r wc => r = hdV evC zC xs ∧ Ext T wa wc ∧ R wc) :
    Ret Try.prog 100 #[.pointer (some ⟨bm, 0, none⟩)] w fun r w' => r = hdV evC zC xs ∧ (∃ wc, R wc ∧ Ext T w wc ∧ Ext (fun k => k = bm ∨ w.heap.size ≤ k) wc w') ∧ Blk w' bm [fv, .bool xs.isEmpty] 110 := by
  have hbm := hB.lt
  refine X.enter Try.func100 rfl Try.ntmps100 rfl ?_
  refine X.seq ?_
  refine X.region ?_
  refine X.opE X.wN rfl (X.allocE Try.zeroValue70 rfl) ?_
  rintro _ w1 ⟨rfl, hB1, hk1, hz1⟩
  refine X.opw X.wN rfl (X.assign rfl) ?_
  refine X.opsEnd ?_
  refine X.seq ?_
  refine X.seq ?_
  refine X.region ?_
  refine X.opw X.wN rfl (X.move rfl) ?_
  refine X.opw X.wN rfl (X.nilCk rfl) ?_
  refine X.opw X.wN rfl (X.fldB (j := 1) Try.underlying110 rfl rfl Try.sizeOf4 rfl) ?_
  refine X.opw X.wN rfl (X.load1B Try.isAgg4 (hB.keep hk1) rfl rfl) ?_
  refine X.opsEnd ?_
  refine X.condB rfl (fun hc => ?_) (fun hc => ?_)
  · cases hc
  · refine X.skip ?_
    refine X.seq ?_
    refine X.seq ?_
    refine X.region ?_
    refine X.opw X.wN rfl (X.move rfl) ?_
    refine X.opw X.wN rfl (X.nilCk rfl) ?_
    refine X.opw X.wN rfl (X.fldB (j := 0) Try.underlying110 rfl rfl Try.sizeOf96 rfl) ?_
    refine X.opw X.wN rfl (X.load1B Try.isAgg96 (hB.keep hk1) rfl rfl) ?_
    refine X.opE X.wN rfl ((hcall _ hk1) _ _ _ _ _ _ _ _ _ rfl rfl) ?_
    rintro _ w2 ⟨rfl, hx2, hR2⟩
    have hx2' := hx2.size
    refine X.opw X.wN rfl (X.move rfl) ?_
    refine X.opw X.wN rfl (X.extr rfl rfl) ?_
    refine X.opw X.wN rfl (X.extr rfl rfl) ?_
    refine X.opE X.wN rfl (X.storeNE Try.sizeOf70 (hB1.ext hx2 (fun h => by have := hTb _ h; omega)) rfl rfl rfl rfl (fun u hu => by simp at hu; rcases hu with rfl | rfl <;> rfl)) ?_
    rintro _ w3 ⟨hB3, hx3, hz3⟩
    refine X.opw X.wN rfl (X.assign (v := .bool _) rfl) ?_
    refine X.opsEnd ?_
    refine X.seq ?_
    refine X.region ?_
    refine X.opw X.wN rfl (X.move (v := .bool _) rfl) ?_
    refine X.opw X.wN rfl (X.not_ rfl) ?_
    refine X.opsEnd ?_
    refine X.condB rfl (fun hc2 => ?_) (fun hc2 => ?_)
    · refine X.seq ?_
      refine X.region ?_
      refine X.opE X.wN rfl (X.allocE Try.zeroValue70 rfl) ?_
      rintro _ w4 ⟨rfl, hB4, hk4, hz4⟩
      refine X.opsEnd ?_
      refine X.regionD (fun k => k = bm) 5 (by kernel_rfl) (by kernel_rfl) (fun w5 hk5 hz5 => ?_)
      refine X.dTake 0 rfl (by kernel_rfl) (by kernel_rfl) (by kernel_rfl) (X.dwN rfl) (fun w' hk' => X.move rfl) ?_
      refine X.dTake 1 rfl (by kernel_rfl) (by kernel_rfl) (by kernel_rfl) (X.dwN rfl) (fun w' hk' => X.loadNB Try.isAgg70 Try.sizeOf70 ((hB4.keep hk5).ext hk' (by intros; (try simp only []); omega)) rfl rfl rfl) ?_
      refine X.dTake 2 rfl (by kernel_rfl) (by kernel_rfl) (by kernel_rfl) (X.dwN rfl) (fun w' hk' => X.nilCk rfl) ?_
      refine X.dTake 3 rfl (by kernel_rfl) (by kernel_rfl) (by kernel_rfl) (X.dwN rfl) (fun w' hk' => X.fldB (j := 1) Try.underlying110 rfl rfl Try.sizeOf4 rfl) ?_
      refine X.dE (i := 4) (by kernel_rfl) rfl (X.dwN rfl) (X.storeE Try.sizeOf4 ((((hB.keep hk1).ext hx2 hTm).ext hx3 (by intros; (try simp only []); omega)).keep (hk4.trans hk5)) rfl rfl rfl rfl) (by rintro _ w6 ⟨hB6, hx6, hz6⟩ _; exact hx6) ?_
      rintro _ w6 ⟨hB6, hx6, hz6⟩
      refine X.dE (i := 5) (by kernel_rfl) rfl (X.dwN rfl) (X.storeNE Try.sizeOf70 ((hB3.keep (hk4.trans hk5)).ext hx6 (by intros; (try simp only []); omega)) rfl rfl rfl rfl (fun u hu => by simp at hu; rcases hu with rfl | rfl <;> rfl)) (fun _ _ _ h => absurd h (by decide)) ?_
      rintro _ w7 ⟨hB7, hx7, hz7⟩
      refine X.dEnd (by kernel_rfl) ?_
      refine X.seq ?_
      refine X.region ?_
      refine X.opw X.wN rfl (X.loadNB Try.isAgg70 Try.sizeOf70 hB7 rfl rfl rfl) ?_
      refine X.opw X.wN rfl (X.move (v := .bool _) rfl) ?_
      refine X.opE X.wN rfl (X.storeNE Try.sizeOf70 hB7 rfl rfl rfl rfl (fun u hu => by simp at hu; rcases hu with rfl | rfl <;> rfl)) ?_
      rintro _ w8 ⟨hB8, hx8, hz8⟩
      refine X.opw X.wN rfl (X.assign (v := .bool _) rfl) ?_
      refine X.opsEnd ?_
      refine X.ret_unw (X.unwR2 Try.func100 Try.results100 (X.ResOk.cell rfl (X.lvN Try.isAgg70 Try.sizeOf70 hB8 rfl)) (show X.ResOk _ _ _ (.tmp 3) (.bool _) from rfl) ?_)
      obtain rfl : xs = [] := by simpa using hc2
      exact ⟨rfl, ⟨_, hR2, (Ext.trans (U := T) hk1 hx2 (fun _ _ h => h.elim) (fun _ _ h => h)), (Ext.andThen (Ext.andThen (Ext.andThen (Ext.andThen (Ext.andThen (Ext.andThen (Ext.refl (fun k => k = bm ∨ w.heap.size ≤ k) _) hx3 (by intro k h1 h2; first | exact h2.elim | omega | (simp only [] at *; omega))) hk4 (by intro k h1 h2; first | exact h2.elim | omega | (simp only [] at *; omega))) hk5 (by intro k h1 h2; first | exact h2.elim | omega | (simp only [] at *; omega))) hx6 (by intro k h1 h2; first | exact h2.elim | omega | (simp only [] at *; omega))) hx7 (by intro k h1 h2; first | exact h2.elim | omega | (simp only [] at *; omega))) hx8 (by intro k h1 h2; first | exact h2.elim | omega | (simp only [] at *; omega)))⟩, ((hB6.ext hx7 (by intros; (try simp only []); omega)).ext hx8 (by intros; (try simp only []); omega))⟩
    · refine X.skip ?_
      refine X.seq ?_
      refine X.region ?_
      refine X.opw X.wN rfl (X.loadNB Try.isAgg70 Try.sizeOf70 hB3 rfl rfl rfl) ?_
      refine X.opw X.wN rfl (X.move (v := .bool _) rfl) ?_
      refine X.opE X.wN rfl (X.storeNE Try.sizeOf70 hB3 rfl rfl rfl rfl (fun u hu => by simp at hu; rcases hu with rfl | rfl <;> rfl)) ?_
      rintro _ w9 ⟨hB9, hx9, hz9⟩
      refine X.opw X.wN rfl (X.assign (v := .bool _) rfl) ?_
      refine X.opsEnd ?_
      refine X.ret_unw (X.unwR2 Try.func100 Try.results100 (X.ResOk.cell rfl (X.lvN Try.isAgg70 Try.sizeOf70 hB9 rfl)) (show X.ResOk _ _ _ (.tmp 3) (.bool _) from rfl) ?_)
      cases xs with
      | nil => simp at hc2
      | cons x xs => exact ⟨rfl, ⟨_, hR2, (Ext.trans (U := T) hk1 hx2 (fun _ _ h => h.elim) (fun _ _ h => h)), (Ext.andThen (Ext.andThen (Ext.refl (fun k => k = bm ∨ w.heap.size ≤ k) _) hx3 (by intro k h1 h2; first | exact h2.elim | omega | (simp only [] at *; omega))) hx9 (by intro k h1 h2; first | exact h2.elim | omega | (simp only [] at *; omega)))⟩, ((((hB.keep hk1).ext hx2 hTm).ext hx3 (by intros; (try simp only []); omega)).ext hx9 (by intros; (try simp only []); omega))⟩
theorem nextc_m (p : Value) (w : World) : (method (Try.prog.types.size + Made.depth) 108 p "Next").run Try.prog w = .ok (100, p) w := by
  kernel_rfl
-- f39 "pedigree/pedigreelaw09.rest[pedigree/api.Counted]" params [72] results [64, 4] -> [(ResultVar.tmp 2), 
set_option maxHeartbeats 4000000 in
set_option maxRecDepth 100000 in
theorem restc_c {B : Nat} {T : Nat → Prop} {p : Value} {xs : List CT} (w : World) (h : Cur Try.prog evC zC 100 B T p xs w) (hB : B ≤ w.heap.size) (hTb : ∀ k, T k → k < w.heap.size) (hxl : xs.length < 2000) : Ret Try.prog 39 #[.iface 108 p] w fun r w' => ∃ v, r = .tuple #[v, .bool true] ∧ Mine KCt 70 (fun k => w.heap.size ≤ k) 0 0 w' v xs ∧ Ext T w w' := by
  refine X.enter Try.func39 rfl Try.ntmps39 rfl ?_
  refine X.seq ?_
  refine X.region ?_
  refine X.opw X.wN rfl (X.assign rfl) ?_
  refine X.opw X.wN rfl (X.assign rfl) ?_
  refine X.opsEnd ?_
  refine X.seq ?_
  refine X.seq ?_
  refine X.region ?_
  refine X.opw X.wN rfl (X.move rfl) ?_
  refine X.opw X.wN rfl (X.eqIf1 Try.underlying72 rfl rfl) ?_
  refine X.opsEnd ?_
  refine X.condF rfl ?_
  refine X.skip ?_
  refine X.seq ?_
  refine X.region ?_
  refine X.opw X.wN rfl (X.assign rfl) ?_
  refine X.opsEnd ?_
  refine X.seq ?_
  refine X.seq ?_
  refine X.region ?_
  refine X.opw X.wN rfl (X.assign rfl) ?_
  refine X.opsEnd ?_
  refine X.block ?_
  -- LOOP live: 0=c, 4=out*, 5=i*
  refine X.loopL (σ := Nat × Value × List CT × List CT) (fun s => [(0, .iface 108 p), (4, s.2.1), (5, .int .i64 (s.1 : Int))]) (fun s w' => s.1 = s.2.2.1.length ∧ s.2.2.1 ++ s.2.2.2 = xs ∧ Mine KCt 70 (fun k => w.heap.size ≤ k) 0 0 w' s.2.1 s.2.2.1 ∧ Cur Try.prog evC zC 100 B T p s.2.2.2 w' ∧ Ext T w w') (fun s => 2000 - s.1) (0, _, [], xs) ⟨rfl, rfl, rfl, trivial⟩ ⟨rfl, rfl, Mine.nil _ _ _ _ _ _, h, Ext.refl _ _⟩ ?_
  rintro ⟨i, v, ds, ys⟩ b0 wl ⟨hi, hxs, hM, hC, hE⟩ hback
  dsimp only
  simp only at hi hxs hM hC
  have hE' := hE.size
  have hlen : ds.length + ys.length = xs.length := by rw [← hxs, List.length_append]
  refine X.seq ?_
  refine X.seq ?_
  refine X.region ?_
  refine X.opw X.wN rfl (X.move (v := .int .i64 _) rfl) ?_
  refine X.opP X.wN rfl rfl (X.lss rfl rfl) (fun h13 => ?_) (fun h13 => ?_)
  · refine X.opsEnd ?_
    refine X.condT rfl ?_
    refine X.skip ?_
    refine X.seq ?_
    refine X.block ?_
    refine X.seq ?_
    refine X.region ?_
    refine X.opw X.wN rfl (X.move rfl) ?_
    refine X.opE X.wN rfl (X.invokeE rfl (nextc_m _) hC.next Try.call100) ?_
    rintro _ w1 ⟨rfl, hx1, hC1⟩
    have hx1' := hx1.size
    refine X.opw X.wN rfl (X.move rfl) ?_
    refine X.opw X.wN rfl (X.extr rfl rfl) ?_
    refine X.opw X.wN rfl (X.extr rfl rfl) ?_
    refine X.opE X.wN rfl (X.allocE Try.zeroValue70 rfl) ?_
    rintro _ w2 ⟨rfl, hB2, hk2, hz2⟩
    refine X.opE X.wN rfl (X.storeNE Try.sizeOf70 hB2 rfl rfl rfl rfl (fun u hu => by simp at hu; rcases hu with rfl | rfl <;> rfl)) ?_
    rintro _ w3 ⟨hB3, hx3, hz3⟩
    refine X.opw X.wN rfl (X.assign (v := .bool _) rfl) ?_
    refine X.opsEnd ?_
    refine X.seq ?_
    refine X.seq ?_
    refine X.region ?_
    refine X.opw X.wN rfl (X.move (v := .bool _) rfl) ?_
    refine X.opw X.wN rfl (X.not_ rfl) ?_
    refine X.opsEnd ?_
    refine X.condB rfl (fun hc => ?_) (fun hc => ?_)
    · cases ys with
      | cons y ys => simp at hc
      | nil =>
      refine X.seq ?_
      refine X.region ?_
      refine X.opw X.wN rfl (X.move rfl) ?_
      refine X.opE X.wN rfl (X.invokeE rfl (nextc_m _) (hC1.keep (hk2.step hx3 (by intros; (try simp only [] at *); omega))).next Try.call100) ?_
      rintro _ w4 ⟨rfl, hx4, hC4⟩
      have hx4' := hx4.size
      refine X.opw X.wN rfl (X.move rfl) ?_
      refine X.opw X.wN rfl (X.extr rfl rfl) ?_
      refine X.opw X.wN rfl (X.extr rfl rfl) ?_
      refine X.opE X.wN rfl (X.allocE Try.zeroValue70 rfl) ?_
      rintro _ w5 ⟨rfl, hB5, hk5, hz5⟩
      refine X.opE X.wN rfl (X.storeNE Try.sizeOf70 hB5 rfl rfl rfl rfl (fun u hu => by simp at hu; rcases hu with rfl | rfl <;> rfl)) ?_
      rintro _ w6 ⟨hB6, hx6, hz6⟩
      refine X.opw X.wN rfl (X.assign (v := .bool _) rfl) ?_
      refine X.opsEnd ?_
      refine X.seq ?_
      refine X.region ?_
      refine X.opw X.wN rfl (X.move rfl) ?_
      refine X.opw X.wN rfl (X.move (v := .bool _) rfl) ?_
      refine X.opw X.wN rfl (X.not_ rfl) ?_
      refine X.opw X.wN rfl (X.assign rfl) ?_
      refine X.opw X.wN rfl (X.assign (v := .bool _) rfl) ?_
      refine X.opsEnd ?_
      refine X.ret2 (v2 := (.bool _)) Try.func39 Try.results39 rfl rfl ?_
      exact ⟨_, rfl, (by rw [List.append_nil] at hxs; rw [← hxs]; exact ((((hM.ext hx1 (by intro k h1 h2; omega) (fun k hk ht => by have := hTb k ht; omega)).keep (hk2.step hx3 (by intros; (try simp only [] at *); omega))).ext hx4 (by intro k h1 h2; omega) (fun k hk ht => by have := hTb k ht; omega)).keep (hk5.step hx6 (by intros; (try simp only [] at *); omega)))), (Ext.andThen (Ext.andThen (Ext.andThen (Ext.andThen (Ext.andThen (Ext.andThen hE hx1 (by intro k h1 h2; first | exact h2 | exact .inl h2 | exact .inr h2 | exact (h2 : False).elim | (exfalso; (try simp only [] at *); omega))) hk2 (by intro k h1 h2; first | exact h2 | exact .inl h2 | exact .inr h2 | exact (h2 : False).elim | (exfalso; (try simp only [] at *); omega))) hx3 (by intro k h1 h2; first | exact h2 | exact .inl h2 | exact .inr h2 | exact (h2 : False).elim | (exfalso; (try simp only [] at *); omega))) hx4 (by intro k h1 h2; first | exact h2 | exact .inl h2 | exact .inr h2 | exact (h2 : False).elim | (exfalso; (try simp only [] at *); omega))) hk5 (by intro k h1 h2; first | exact h2 | exact .inl h2 | exact .inr h2 | exact (h2 : False).elim | (exfalso; (try simp only [] at *); omega))) hx6 (by intro k h1 h2; first | exact h2 | exact .inl h2 | exact .inr h2 | exact (h2 : False).elim | (exfalso; (try simp only [] at *); omega)))⟩
    · cases ys with
      | nil => simp at hc
      | cons y ys =>
      refine X.skip ?_
      refine X.region ?_
      refine X.opw X.wN rfl (X.move rfl) ?_
      refine X.opw X.wN rfl (X.loadNB Try.isAgg70 Try.sizeOf70 hB3 rfl rfl rfl) ?_
      refine X.opE X.wN rfl (X.litKF KCt_flat (K := KCt) (xs := [Operand.tmp 32]) (vs := [evC y]) (ys := [y]) Try.underlying64 Try.sizeOf70 Try.zeroValue70 rfl rfl rfl rfl rfl (repsC y)) ?_
      rintro _ w7 ⟨rfl, hs7, hB7, hk7, hz7⟩
      refine X.opE X.wN rfl (X.appE (K := KCt) (S := fun k => w.heap.size ≤ k) KCt_flat Try.underlying64 ECt rfl rfl ((hM.ext hx1 (by intro k h1 h2; omega) (fun k hk ht => by have := hTb k ht; omega)).keep ((hk2.step hx3 (by intros; (try simp only [] at *); omega)).trans hk7)) hs7 (by (try simp only [List.length_append, List.length_cons, List.length_nil, List.length_take, List.length_drop, List.length_map, List.length_range]); omega) (by intros; (try simp only [] at *); omega)) ?_
      rintro v8 w8 ⟨hM8, hx8⟩
      have hx8' := hx8.size
      refine X.opw X.wN rfl (X.assign rfl) ?_
      refine X.opsEnd ?_
      refine X.inBlock ?_
      refine X.region ?_
      refine X.opw X.wN rfl (X.move (v := .int .i64 _) rfl) ?_
      refine X.opw X.wN rfl (X.add rfl rfl (X.w_i64 (by omega))) ?_
      refine X.opw X.wN rfl (X.assign (v := .int .i64 _) rfl) ?_
      refine X.opsEnd ?_
      refine hback (i + 1, _, ds ++ [y], ys) _ _ ⟨rfl, rfl, rfl, trivial⟩ ⟨by dsimp only; rw [List.length_append, hi]; rfl, by dsimp only; rw [← hxs]; simp, hM8, ((hC1.keep ((hk2.step hx3 (by intros; (try simp only [] at *); omega)).trans hk7)).ext hx8 (by intro k hk hk2; refine ⟨by (try simp only [] at *); omega, fun ht => by have := hTb k ht; (try simp only [] at *); omega⟩)), (Ext.andThen (Ext.andThen (Ext.andThen (Ext.andThen (Ext.andThen hE hx1 (by intro k h1 h2; first | exact h2 | exact .inl h2 | exact .inr h2 | exact (h2 : False).elim | (exfalso; (try simp only [] at *); omega))) hk2 (by intro k h1 h2; first | exact h2 | exact .inl h2 | exact .inr h2 | exact (h2 : False).elim | (exfalso; (try simp only [] at *); omega))) hx3 (by intro k h1 h2; first | exact h2 | exact .inl h2 | exact .inr h2 | exact (h2 : False).elim | (exfalso; (try simp only [] at *); omega))) hk7 (by intro k h1 h2; first | exact h2 | exact .inl h2 | exact .inr h2 | exact (h2 : False).elim | (exfalso; (try simp only [] at *); omega))) hx8 (by intro k h1 h2; first | exact h2 | exact .inl h2 | exact .inr h2 | exact (h2 : False).elim | (exfalso; (try simp only [] at *); omega)))⟩ (by dsimp only; omega)
  · refine X.opsEnd ?_
    refine X.condF rfl ?_
    refine X.exit rfl ?_
    refine X.seq ?_
    refine X.region ?_
    refine X.opw X.wN rfl (X.move rfl) ?_
    refine X.opw X.wN rfl (X.assign rfl) ?_
    refine X.opw X.wN rfl (X.assign rfl) ?_
    refine X.opsEnd ?_
    refine X.ret2 (v2 := (.bool _)) Try.func39 Try.results39 rfl rfl ?_
    omega
end Go.Proofs.Ytgfficbkajcdpaa

namespace Go.Proofs.Ytgfficbkajcdpaa
open Go Go.Proofs.Ytgfficbkajcdpaa.X
set_option linter.unusedVariables false
set_option linter.unusedSimpArgs false
-- f64 "(*pedigree/merge.head[pedigree/api.Counted]).look" params [103] results [70, 4] -> [(ResultVar.cell 2 
set_option maxHeartbeats 4000000 in
set_option maxRecDepth 100000 in
theorem clookt_c (hb : Nat) (c : Value) (x : CT) (w : World) (hB : Blk w hb [c, .slice x.1.1 x.1.2.1 x.1.2.2, .int .i64 x.2, .bool true, .bool false] 107) : Ret Try.prog 64 #[.pointer (some ⟨hb, 0, none⟩)] w fun r w' => r = .tuple #[evC x, .bool true] ∧ Keep w w' := by
  have hhb := hB.lt
  refine X.enter Try.func64 rfl Try.ntmps64 rfl ?_
  refine X.seq ?_
  refine X.region ?_
  refine X.opE X.wN rfl (X.allocE Try.zeroValue70 rfl) ?_
  rintro _ w1 ⟨rfl, hB1, hk1, hz1⟩
  refine X.opw X.wN rfl (X.assign rfl) ?_
  refine X.opsEnd ?_
  refine X.seq ?_
  refine X.seq ?_
  refine X.region ?_
  refine X.opw X.wN rfl (X.move rfl) ?_
  refine X.opw X.wN rfl (X.nilCk rfl) ?_
  refine X.opw X.wN rfl (X.fldB (j := 3) Try.underlying107 rfl rfl Try.sizeOf4 rfl) ?_
  refine X.opw X.wN rfl (X.load1B Try.isAgg4 (hB.keep hk1) rfl rfl) ?_
  refine X.opw X.wN rfl (X.not_ rfl) ?_
  refine X.opw X.wN rfl (X.move (v := .bool false) rfl) ?_
  refine X.opS rfl rfl rfl rfl rfl ?_
  refine X.opS rfl rfl rfl rfl rfl ?_
  refine X.opS rfl rfl rfl rfl rfl ?_
  refine X.opS rfl rfl rfl rfl rfl ?_
  refine X.opS rfl rfl rfl rfl rfl ?_
  refine X.opw X.wN rfl (X.pickF (v := .bool false) rfl rfl) ?_
  refine X.opsEnd ?_
  refine X.condF rfl ?_
  refine X.skip ?_
  refine X.seq ?_
  refine X.regionD (fun k => k = w.heap.size) 10 (by kernel_rfl) (by kernel_rfl) (fun w2 hk2 hz2 => ?_)
  refine X.dTake 0 rfl (by kernel_rfl) (by kernel_rfl) (by kernel_rfl) (X.dwN rfl) (fun w' hk' => X.move rfl) ?_
  refine X.dTake 1 rfl (by kernel_rfl) (by kernel_rfl) (by kernel_rfl) (X.dwN rfl) (fun w' hk' => X.nilCk rfl) ?_
  refine X.dTake 2 rfl (by kernel_rfl) (by kernel_rfl) (by kernel_rfl) (X.dwN rfl) (fun w' hk' => X.fldB (j := 1) Try.underlying107 rfl rfl Try.sizeOf70 rfl) ?_
  refine X.dTake 3 rfl (by kernel_rfl) (by kernel_rfl) (by kernel_rfl) (X.dwN rfl) (fun w' hk' => X.loadNB Try.isAgg70 Try.sizeOf70 (hB.keep ((hk1.trans hk2).step hk' (by intros; (try simp only [] at *); omega))) rfl rfl rfl) ?_
  refine X.dTake 4 rfl (by kernel_rfl) (by kernel_rfl) (by kernel_rfl) (X.dwN rfl) (fun w' hk' => X.move rfl) ?_
  refine X.dTake 5 rfl (by kernel_rfl) (by kernel_rfl) (by kernel_rfl) (X.dwN rfl) (fun w' hk' => X.nilCk rfl) ?_
  refine X.dTake 6 rfl (by kernel_rfl) (by kernel_rfl) (by kernel_rfl) (X.dwN rfl) (fun w' hk' => X.fldB (j := 4) Try.underlying107 rfl rfl Try.sizeOf4 rfl) ?_
  refine X.dTake 7 rfl (by kernel_rfl) (by kernel_rfl) (by kernel_rfl) (X.dwN rfl) (fun w' hk' => X.load1B Try.isAgg4 (hB.keep ((hk1.trans hk2).step hk' (by intros; (try simp only [] at *); omega))) rfl rfl) ?_
  refine X.dTake 8 rfl (by kernel_rfl) (by kernel_rfl) (by kernel_rfl) (X.dwN rfl) (fun w' hk' => X.not_ rfl) ?_
  refine X.dE (i := 9) (by kernel_rfl) rfl (X.dwN rfl) (X.storeNE Try.sizeOf70 (hB1.keep hk2) rfl rfl rfl rfl (fun u hu => by simp at hu; rcases hu with rfl | rfl <;> rfl)) (by rintro _ w3 ⟨hB3, hx3, hz3⟩ _; exact hx3.mono (fun k _ h => by (try simp only [] at *); omega)) ?_
  rintro _ w3 ⟨hB3, hx3, hz3⟩
  refine X.dStep (i := 10) (by kernel_rfl) rfl (X.dwN rfl) (X.assign (v := .bool _) rfl) (fun h => absurd h (by decide)) ?_
  refine X.dEnd (by kernel_rfl) ?_
  refine X.ret_unw (X.unwR2 Try.func64 Try.results64 (X.ResOk.cell rfl (X.lvN Try.isAgg70 Try.sizeOf70 hB3 rfl)) (show X.ResOk _ _ _ (.tmp 3) (.bool _) from rfl) ?_)
  exact ⟨rfl, ((hk1.trans hk2).step hx3 (by intros; (try simp only [] at *); omega))⟩
-- f64 "(*pedigree/merge.head[pedigree/api.Counted]).look" params [103] results [70, 4] -> [(ResultVar.cell 2 
set_option maxHeartbeats 4000000 in
set_option maxRecDepth 100000 in
theorem clooko_c (hb : Nat) (c : Value) (x : CT) (w : World) (hB : Blk w hb [c, .slice x.1.1 x.1.2.1 x.1.2.2, .int .i64 x.2, .bool true, .bool true] 107) : Ret Try.prog 64 #[.pointer (some ⟨hb, 0, none⟩)] w fun r w' => r = .tuple #[evC x, .bool false] ∧ Keep w w' := by
  have hhb := hB.lt
  refine X.enter Try.func64 rfl Try.ntmps64 rfl ?_
  refine X.seq ?_
  refine X.region ?_
  refine X.opE X.wN rfl (X.allocE Try.zeroValue70 rfl) ?_
  rintro _ w1 ⟨rfl, hB1, hk1, hz1⟩
  refine X.opw X.wN rfl (X.assign rfl) ?_
  refine X.opsEnd ?_
  refine X.seq ?_
  refine X.seq ?_
  refine X.region ?_
  refine X.opw X.wN rfl (X.move rfl) ?_
  refine X.opw X.wN rfl (X.nilCk rfl) ?_
  refine X.opw X.wN rfl (X.fldB (j := 3) Try.underlying107 rfl rfl Try.sizeOf4 rfl) ?_
  refine X.opw X.wN rfl (X.load1B Try.isAgg4 (hB.keep hk1) rfl rfl) ?_
  refine X.opw X.wN rfl (X.not_ rfl) ?_
  refine X.opw X.wN rfl (X.move (v := .bool false) rfl) ?_
  refine X.opS rfl rfl rfl rfl rfl ?_
  refine X.opS rfl rfl rfl rfl rfl ?_
  refine X.opS rfl rfl rfl rfl rfl ?_
  refine X.opS rfl rfl rfl rfl rfl ?_
  refine X.opS rfl rfl rfl rfl rfl ?_
  refine X.opw X.wN rfl (X.pickF (v := .bool false) rfl rfl) ?_
  refine X.opsEnd ?_
  refine X.condF rfl ?_
  refine X.skip ?_
  refine X.seq ?_
  refine X.regionD (fun k => k = w.heap.size) 10 (by kernel_rfl) (by kernel_rfl) (fun w2 hk2 hz2 => ?_)
  refine X.dTake 0 rfl (by kernel_rfl) (by kernel_rfl) (by kernel_rfl) (X.dwN rfl) (fun w' hk' => X.move rfl) ?_
  refine X.dTake 1 rfl (by kernel_rfl) (by kernel_rfl) (by kernel_rfl) (X.dwN rfl) (fun w' hk' => X.nilCk rfl) ?_
  refine X.dTake 2 rfl (by kernel_rfl) (by kernel_rfl) (by kernel_rfl) (X.dwN rfl) (fun w' hk' => X.fldB (j := 1) Try.underlying107 rfl rfl Try.sizeOf70 rfl) ?_
  refine X.dTake 3 rfl (by kernel_rfl) (by kernel_rfl) (by kernel_rfl) (X.dwN rfl) (fun w' hk' => X.loadNB Try.isAgg70 Try.sizeOf70 (hB.keep ((hk1.trans hk2).step hk' (by intros; (try simp only [] at *); omega))) rfl rfl rfl) ?_
  refine X.dTake 4 rfl (by kernel_rfl) (by kernel_rfl) (by kernel_rfl) (X.dwN rfl) (fun w' hk' => X.move rfl) ?_
  refine X.dTake 5 rfl (by kernel_rfl) (by kernel_rfl) (by kernel_rfl) (X.dwN rfl) (fun w' hk' => X.nilCk rfl) ?_
  refine X.dTake 6 rfl (by kernel_rfl) (by kernel_rfl) (by kernel_rfl) (X.dwN rfl) (fun w' hk' => X.fldB (j := 4) Try.underlying107 rfl rfl Try.sizeOf4 rfl) ?_
  refine X.dTake 7 rfl (by kernel_rfl) (by kernel_rfl) (by kernel_rfl) (X.dwN rfl) (fun w' hk' => X.load1B Try.isAgg4 (hB.keep ((hk1.trans hk2).step hk' (by intros; (try simp only [] at *); omega))) rfl rfl) ?_
  refine X.dTake 8 rfl (by kernel_rfl) (by kernel_rfl) (by kernel_rfl) (X.dwN rfl) (fun w' hk' => X.not_ rfl) ?_
  refine X.dE (i := 9) (by kernel_rfl) rfl (X.dwN rfl) (X.storeNE Try.sizeOf70 (hB1.keep hk2) rfl rfl rfl rfl (fun u hu => by simp at hu; rcases hu with rfl | rfl <;> rfl)) (by rintro _ w3 ⟨hB3, hx3, hz3⟩ _; exact hx3.mono (fun k _ h => by (try simp only [] at *); omega)) ?_
  rintro _ w3 ⟨hB3, hx3, hz3⟩
  refine X.dStep (i := 10) (by kernel_rfl) rfl (X.dwN rfl) (X.assign (v := .bool _) rfl) (fun h => absurd h (by decide)) ?_
  refine X.dEnd (by kernel_rfl) ?_
  refine X.ret_unw (X.unwR2 Try.func64 Try.results64 (X.ResOk.cell rfl (X.lvN Try.isAgg70 Try.sizeOf70 hB3 rfl)) (show X.ResOk _ _ _ (.tmp 3) (.bool _) from rfl) ?_)
  exact ⟨rfl, ((hk1.trans hk2).step hx3 (by intros; (try simp only [] at *); omega))⟩
-- f64 "(*pedigree/merge.head[pedigree/api.Counted]).look" params [103] results [70, 4] -> [(ResultVar.cell 2 
set_option maxHeartbeats 4000000 in
set_option maxRecDepth 100000 in
theorem clookn_c (hb : Nat) (x : CT) (w : World) (hB : Blk w hb [.nilIface, .slice x.1.1 x.1.2.1 x.1.2.2, .int .i64 x.2, .bool false, .bool false] 107) : Ret Try.prog 64 #[.pointer (some ⟨hb, 0, none⟩)] w fun r w' => r = .tuple #[evC x, .bool false] ∧ Blk w' hb [.nilIface, .slice x.1.1 x.1.2.1 x.1.2.2, .int .i64 x.2, .bool true, .bool true] 107 ∧ Ext (fun k => k = hb) w w' := by
  have hhb := hB.lt
  refine X.enter Try.func64 rfl Try.ntmps64 rfl ?_
  refine X.seq ?_
  refine X.region ?_
  refine X.opE X.wN rfl (X.allocE Try.zeroValue70 rfl) ?_
  rintro _ w1 ⟨rfl, hB1, hk1, hz1⟩
  refine X.opw X.wN rfl (X.assign rfl) ?_
  refine X.opsEnd ?_
  refine X.seq ?_
  refine X.seq ?_
  refine X.region ?_
  refine X.opw X.wN rfl (X.move rfl) ?_
  refine X.opw X.wN rfl (X.nilCk rfl) ?_
  refine X.opw X.wN rfl (X.fldB (j := 3) Try.underlying107 rfl rfl Try.sizeOf4 rfl) ?_
  refine X.opw X.wN rfl (X.load1B Try.isAgg4 (hB.keep hk1) rfl rfl) ?_
  refine X.opw X.wN rfl (X.not_ rfl) ?_
  refine X.opw X.wN rfl (X.move (v := .bool true) rfl) ?_
  refine X.opw (X.wG rfl rfl rfl) rfl (X.move rfl) ?_
  refine X.opw (X.wG rfl rfl rfl) rfl (X.nilCk rfl) ?_
  refine X.opw (X.wG rfl rfl rfl) rfl (X.fldB (j := 4) Try.underlying107 rfl rfl Try.sizeOf4 rfl) ?_
  refine X.opw (X.wG rfl rfl rfl) rfl (X.load1B Try.isAgg4 (hB.keep hk1) rfl rfl) ?_
  refine X.opw (X.wG rfl rfl rfl) rfl (X.not_ rfl) ?_
  refine X.opw X.wN rfl (X.pickT (v := .bool true) rfl rfl) ?_
  refine X.opsEnd ?_
  refine X.condT rfl ?_
  refine X.seq ?_
  refine X.region ?_
  refine X.opw X.wN rfl (X.move rfl) ?_
  refine X.opw X.wN rfl (X.nilCk rfl) ?_
  refine X.opw X.wN rfl (X.fldB (j := 3) Try.underlying107 rfl rfl Try.sizeOf4 rfl) ?_
  refine X.opE X.wN rfl (X.storeE Try.sizeOf4 (hB.keep hk1) rfl rfl rfl rfl) ?_
  rintro _ w2 ⟨hB2, hx2, hz2⟩
  refine X.opsEnd ?_
  refine X.seq ?_
  refine X.region ?_
  refine X.opw X.wN rfl (X.assign rfl) ?_
  refine X.opsEnd ?_
  refine X.seq ?_
  refine X.seq ?_
  refine X.region ?_
  refine X.opw X.wN rfl (X.move rfl) ?_
  refine X.opw X.wN rfl (X.nilCk rfl) ?_
  refine X.opw X.wN rfl (X.fldB (j := 0) Try.underlying107 rfl rfl Try.sizeOf72 rfl) ?_
  refine X.opw X.wN rfl (X.load1B Try.isAgg72 hB2 rfl rfl) ?_
  refine X.opw X.wN rfl (X.neIf0 Try.underlying72 rfl rfl) ?_
  refine X.opsEnd ?_
  refine X.condF rfl ?_
  refine X.skip ?_
  refine X.region ?_
  refine X.opw X.wN rfl (X.move rfl) ?_
  refine X.opw X.wN rfl (X.move (v := .bool false) rfl) ?_
  refine X.opw X.wN rfl (X.not_ rfl) ?_
  refine X.opw X.wN rfl (X.nilCk rfl) ?_
  refine X.opw X.wN rfl (X.fldB (j := 4) Try.underlying107 rfl rfl Try.sizeOf4 rfl) ?_
  refine X.opE X.wN rfl (X.storeE Try.sizeOf4 hB2 rfl rfl rfl rfl) ?_
  rintro _ w3 ⟨hB3, hx3, hz3⟩
  refine X.opsEnd ?_
  refine X.seq ?_
  refine X.regionD (fun k => k = w.heap.size) 10 (by kernel_rfl) (by kernel_rfl) (fun w4 hk4 hz4 => ?_)
  refine X.dTake 0 rfl (by kernel_rfl) (by kernel_rfl) (by kernel_rfl) (X.dwN rfl) (fun w' hk' => X.move rfl) ?_
  refine X.dTake 1 rfl (by kernel_rfl) (by kernel_rfl) (by kernel_rfl) (X.dwN rfl) (fun w' hk' => X.nilCk rfl) ?_
  refine X.dTake 2 rfl (by kernel_rfl) (by kernel_rfl) (by kernel_rfl) (X.dwN rfl) (fun w' hk' => X.fldB (j := 1) Try.underlying107 rfl rfl Try.sizeOf70 rfl) ?_
  refine X.dTake 3 rfl (by kernel_rfl) (by kernel_rfl) (by kernel_rfl) (X.dwN rfl) (fun w' hk' => X.loadNB Try.isAgg70 Try.sizeOf70 ((hB3.keep hk4).ext hk' (by intros; (try simp only []); omega)) rfl rfl rfl) ?_
  refine X.dTake 4 rfl (by kernel_rfl) (by kernel_rfl) (by kernel_rfl) (X.dwN rfl) (fun w' hk' => X.move rfl) ?_
  refine X.dTake 5 rfl (by kernel_rfl) (by kernel_rfl) (by kernel_rfl) (X.dwN rfl) (fun w' hk' => X.nilCk rfl) ?_
  refine X.dTake 6 rfl (by kernel_rfl) (by kernel_rfl) (by kernel_rfl) (X.dwN rfl) (fun w' hk' => X.fldB (j := 4) Try.underlying107 rfl rfl Try.sizeOf4 rfl) ?_
  refine X.dTake 7 rfl (by kernel_rfl) (by kernel_rfl) (by kernel_rfl) (X.dwN rfl) (fun w' hk' => X.load1B Try.isAgg4 ((hB3.keep hk4).ext hk' (by intros; (try simp only []); omega)) rfl rfl) ?_
  refine X.dTake 8 rfl (by kernel_rfl) (by kernel_rfl) (by kernel_rfl) (X.dwN rfl) (fun w' hk' => X.not_ rfl) ?_
  refine X.dE (i := 9) (by kernel_rfl) rfl (X.dwN rfl) (X.storeNE Try.sizeOf70 (((hB1.ext hx2 (by intros; (try simp only []); omega)).ext hx3 (by intros; (try simp only []); omega)).keep hk4) rfl rfl rfl rfl (fun u hu => by simp at hu; rcases hu with rfl | rfl <;> rfl)) (by rintro _ w5 ⟨hB5, hx5, hz5⟩ _; exact hx5.mono (fun k _ h => by (try simp only [] at *); omega)) ?_
  rintro _ w5 ⟨hB5, hx5, hz5⟩
  refine X.dStep (i := 10) (by kernel_rfl) rfl (X.dwN rfl) (X.assign (v := .bool _) rfl) (fun h => absurd h (by decide)) ?_
  refine X.dEnd (by kernel_rfl) ?_
  refine X.ret_unw (X.unwR2 Try.func64 Try.results64 (X.ResOk.cell rfl (X.lvN Try.isAgg70 Try.sizeOf70 hB5 rfl)) (show X.ResOk _ _ _ (.tmp 3) (.bool _) from rfl) ?_)
  exact ⟨rfl, ((hB3.keep hk4).ext hx5 (by intros; (try simp only []); omega)), (Ext.andThen (Ext.andThen (Ext.andThen (Ext.andThen (Ext.andThen (Ext.refl (fun k => k = hb) _) hk1 (by intro k h1 h2; first | exact h2 | exact .inl h2 | exact .inr h2 | exact (h2 : False).elim | (exfalso; (try simp only [] at *); omega))) hx2 (by intro k h1 h2; first | exact h2 | exact .inl h2 | exact .inr h2 | exact (h2 : False).elim | (exfalso; (try simp only [] at *); omega))) hx3 (by intro k h1 h2; first | exact h2 | exact .inl h2 | exact .inr h2 | exact (h2 : False).elim | (exfalso; (try simp only [] at *); omega))) hk4 (by intro k h1 h2; first | exact h2 | exact .inl h2 | exact .inr h2 | exact (h2 : False).elim | (exfalso; (try simp only [] at *); omega))) hx5 (by intro k h1 h2; first | exact h2 | exact .inl h2 | exact .inr h2 | exact (h2 : False).elim | (exfalso; (try simp only [] at *); omega)))⟩
-- f64 "(*pedigree/merge.head[pedigree/api.Counted]).look" params [103] results [70, 4] -> [(ResultVar.cell 2 
set_option maxHeartbeats 4000000 in
set_option maxRecDepth 100000 in
theorem clookc_c {B : Nat} {T : Nat → Prop} {p : Value} {ys : List CT} (hb : Nat) (x : CT) (w : World) (hB : Blk w hb [(.iface 108 p), .slice x.1.1 x.1.2.1 x.1.2.2, .int .i64 x.2, .bool false, .bool false] 107) (hC : Cur Try.prog evC zC 100 B T p ys w) (hBs : B ≤ w.heap.size) (hBh : B ≤ hb) (hTh : ¬ T hb) (hTb : ∀ k, T k → k < w.heap.size) :
    Ret Try.prog 64 #[.pointer (some ⟨hb, 0, none⟩)] w fun r w' => r = .tuple #[evC (ys.headD zC), .bool (!ys.isEmpty)] ∧ Blk w' hb [(.iface 108 p), .slice (ys.headD zC).1.1 (ys.headD zC).1.2.1 (ys.headD zC).1.2.2, .int .i64 (ys.headD zC).2, .bool true, .bool ys.isEmpty] 107 ∧ Cur Try.prog evC zC 100 B T p ys.tail w' ∧ Ext (fun k => T k ∨ k = hb) w w' := by
  have hhb := hB.lt
  refine X.enter Try.func64 rfl Try.ntmps64 rfl ?_
  refine X.seq ?_
  refine X.region ?_
  refine X.opE X.wN rfl (X.allocE Try.zeroValue70 rfl) ?_
  rintro _ w1 ⟨rfl, hB1, hk1, hz1⟩
  refine X.opw X.wN rfl (X.assign rfl) ?_
  refine X.opsEnd ?_
  refine X.seq ?_
  refine X.seq ?_
  refine X.region ?_
  refine X.opw X.wN rfl (X.move rfl) ?_
  refine X.opw X.wN rfl (X.nilCk rfl) ?_
  refine X.opw X.wN rfl (X.fldB (j := 3) Try.underlying107 rfl rfl Try.sizeOf4 rfl) ?_
  refine X.opw X.wN rfl (X.load1B Try.isAgg4 (hB.keep hk1) rfl rfl) ?_
  refine X.opw X.wN rfl (X.not_ rfl) ?_
  refine X.opw X.wN rfl (X.move (v := .bool true) rfl) ?_
  refine X.opw (X.wG rfl rfl rfl) rfl (X.move rfl) ?_
  refine X.opw (X.wG rfl rfl rfl) rfl (X.nilCk rfl) ?_
  refine X.opw (X.wG rfl rfl rfl) rfl (X.fldB (j := 4) Try.underlying107 rfl rfl Try.sizeOf4 rfl) ?_
  refine X.opw (X.wG rfl rfl rfl) rfl (X.load1B Try.isAgg4 (hB.keep hk1) rfl rfl) ?_
  refine X.opw (X.wG rfl rfl rfl) rfl (X.not_ rfl) ?_
  refine X.opw X.wN rfl (X.pickT (v := .bool true) rfl rfl) ?_
  refine X.opsEnd ?_
  refine X.condT rfl ?_
  refine X.seq ?_
  refine X.region ?_
  refine X.opw X.wN rfl (X.move rfl) ?_
  refine X.opw X.wN rfl (X.nilCk rfl) ?_
  refine X.opw X.wN rfl (X.fldB (j := 3) Try.underlying107 rfl rfl Try.sizeOf4 rfl) ?_
  refine X.opE X.wN rfl (X.storeE Try.sizeOf4 (hB.keep hk1) rfl rfl rfl rfl) ?_
  rintro _ w2 ⟨hB2, hx2, hz2⟩
  refine X.opsEnd ?_
  refine X.seq ?_
  refine X.region ?_
  refine X.opw X.wN rfl (X.assign rfl) ?_
  refine X.opsEnd ?_
  refine X.seq ?_
  refine X.seq ?_
  refine X.region ?_
  refine X.opw X.wN rfl (X.move rfl) ?_
  refine X.opw X.wN rfl (X.nilCk rfl) ?_
  refine X.opw X.wN rfl (X.fldB (j := 0) Try.underlying107 rfl rfl Try.sizeOf72 rfl) ?_
  refine X.opw X.wN rfl (X.load1B Try.isAgg72 hB2 rfl rfl) ?_
  refine X.opw X.wN rfl (X.neIf1 Try.underlying72 rfl rfl) ?_
  refine X.opsEnd ?_
  refine X.condT rfl ?_
  refine X.region ?_
  refine X.opw X.wN rfl (X.move rfl) ?_
  refine X.opw X.wN rfl (X.move rfl) ?_
  refine X.opw X.wN rfl (X.nilCk rfl) ?_
  refine X.opw X.wN rfl (X.fldB (j := 0) Try.underlying107 rfl rfl Try.sizeOf72 rfl) ?_
  refine X.opw X.wN rfl (X.load1B Try.isAgg72 hB2 rfl rfl) ?_
  refine X.opE X.wN rfl (X.invokeE rfl (nextc_m _) ((hC.keep hk1).ext hx2 (by intro k hk hk2; first | (replace hk2 : k = hb := hk2; rw [hk2]; exact ⟨hBh, hTh⟩) | refine ⟨by (try simp only [] at *); omega, fun ht => by have := hTb k ht; (try simp only [] at *); omega⟩)).next Try.call100) ?_
  rintro _ w3 ⟨rfl, hx3, hC3⟩
  have hx3' := hx3.size
  refine X.opw X.wN rfl (X.move rfl) ?_
  refine X.opw X.wN rfl (X.extr rfl rfl) ?_
  refine X.opw X.wN rfl (X.extr rfl rfl) ?_
  refine X.opw X.wN rfl (X.nilCk rfl) ?_
  refine X.opw X.wN rfl (X.fldB (j := 1) Try.underlying107 rfl rfl Try.sizeOf70 rfl) ?_
  refine X.opE X.wN rfl (X.storeAtE Try.sizeOf70 (hB2.ext hx3 hTh) rfl rfl rfl rfl (fun u hu => by simp at hu; rcases hu with rfl | rfl <;> rfl)) ?_
  rintro _ w4 ⟨hB4, hx4, hz4⟩
  refine X.opw X.wN rfl (X.assign (v := .bool _) rfl) ?_
  refine X.opsEnd ?_
  refine X.region ?_
  refine X.opw X.wN rfl (X.move rfl) ?_
  refine X.opw X.wN rfl (X.move (v := .bool _) rfl) ?_
  refine X.opw X.wN rfl (X.not_ rfl) ?_
  refine X.opw X.wN rfl (X.nilCk rfl) ?_
  refine X.opw X.wN rfl (X.fldB (j := 4) Try.underlying107 rfl rfl Try.sizeOf4 rfl) ?_
  refine X.opE X.wN rfl (X.storeE Try.sizeOf4 hB4 rfl rfl rfl rfl) ?_
  rintro _ w5 ⟨hB5, hx5, hz5⟩
  refine X.opsEnd ?_
  refine X.seq ?_
  refine X.regionD (fun k => k = w.heap.size) 10 (by kernel_rfl) (by kernel_rfl) (fun w6 hk6 hz6 => ?_)
  refine X.dTake 0 rfl (by kernel_rfl) (by kernel_rfl) (by kernel_rfl) (X.dwN rfl) (fun w' hk' => X.move rfl) ?_
  refine X.dTake 1 rfl (by kernel_rfl) (by kernel_rfl) (by kernel_rfl) (X.dwN rfl) (fun w' hk' => X.nilCk rfl) ?_
  refine X.dTake 2 rfl (by kernel_rfl) (by kernel_rfl) (by kernel_rfl) (X.dwN rfl) (fun w' hk' => X.fldB (j := 1) Try.underlying107 rfl rfl Try.sizeOf70 rfl) ?_
  refine X.dTake 3 rfl (by kernel_rfl) (by kernel_rfl) (by kernel_rfl) (X.dwN rfl) (fun w' hk' => X.loadNB Try.isAgg70 Try.sizeOf70 ((hB5.keep hk6).ext hk' (by intros; (try simp only []); omega)) rfl rfl rfl) ?_
  refine X.dTake 4 rfl (by kernel_rfl) (by kernel_rfl) (by kernel_rfl) (X.dwN rfl) (fun w' hk' => X.move rfl) ?_
  refine X.dTake 5 rfl (by kernel_rfl) (by kernel_rfl) (by kernel_rfl) (X.dwN rfl) (fun w' hk' => X.nilCk rfl) ?_
  refine X.dTake 6 rfl (by kernel_rfl) (by kernel_rfl) (by kernel_rfl) (X.dwN rfl) (fun w' hk' => X.fldB (j := 4) Try.underlying107 rfl rfl Try.sizeOf4 rfl) ?_
  refine X.dTake 7 rfl (by kernel_rfl) (by kernel_rfl) (by kernel_rfl) (X.dwN rfl) (fun w' hk' => X.load1B Try.isAgg4 ((hB5.keep hk6).ext hk' (by intros; (try simp only []); omega)) rfl rfl) ?_
  refine X.dTake 8 rfl (by kernel_rfl) (by kernel_rfl) (by kernel_rfl) (X.dwN rfl) (fun w' hk' => X.not_ rfl) ?_
  refine X.dE (i := 9) (by kernel_rfl) rfl (X.dwN rfl) (X.storeNE Try.sizeOf70 (((((hB1.ext hx2 (by intros; (try simp only []); omega)).ext hx3 (fun h => by have := hTb _ h; omega)).ext hx4 (by intros; (try simp only []); omega)).ext hx5 (by intros; (try simp only []); omega)).keep hk6) rfl rfl rfl rfl (fun u hu => by simp at hu; rcases hu with rfl | rfl <;> rfl)) (by rintro _ w7 ⟨hB7, hx7, hz7⟩ _; exact hx7.mono (fun k _ h => by (try simp only [] at *); omega)) ?_
  rintro _ w7 ⟨hB7, hx7, hz7⟩
  refine X.dStep (i := 10) (by kernel_rfl) rfl (X.dwN rfl) (X.assign (v := .bool _) rfl) (fun h => absurd h (by decide)) ?_
  refine X.dEnd (by kernel_rfl) ?_
  refine X.ret_unw (X.unwR2 Try.func64 Try.results64 (X.ResOk.cell rfl (X.lvN Try.isAgg70 Try.sizeOf70 hB7 rfl)) (show X.ResOk _ _ _ (.tmp 3) (.bool _) from rfl) ?_)
  cases ys with
  | nil => exact ⟨rfl, ((hB5.keep hk6).ext hx7 (by intros; (try simp only []); omega)), ((((hC3.ext hx4 (by intro k hk hk2; first | (replace hk2 : k = hb := hk2; rw [hk2]; exact ⟨hBh, hTh⟩) | refine ⟨by (try simp only [] at *); omega, fun ht => by have := hTb k ht; (try simp only [] at *); omega⟩)).ext hx5 (by intro k hk hk2; first | (replace hk2 : k = hb := hk2; rw [hk2]; exact ⟨hBh, hTh⟩) | refine ⟨by (try simp only [] at *); omega, fun ht => by have := hTb k ht; (try simp only [] at *); omega⟩)).keep hk6).ext hx7 (by intro k hk hk2; first | (replace hk2 : k = hb := hk2; rw [hk2]; exact ⟨hBh, hTh⟩) | refine ⟨by (try simp only [] at *); omega, fun ht => by have := hTb k ht; (try simp only [] at *); omega⟩)), (Ext.andThen (Ext.andThen (Ext.andThen (Ext.andThen (Ext.andThen (Ext.andThen (Ext.andThen (Ext.refl (fun k => T k ∨ k = hb) _) hk1 (by intro k h1 h2; first | exact h2 | exact .inl h2 | exact .inr h2 | exact (h2 : False).elim | (exfalso; (try simp only [] at *); omega))) hx2 (by intro k h1 h2; first | exact h2 | exact .inl h2 | exact .inr h2 | exact (h2 : False).elim | (exfalso; (try simp only [] at *); omega))) hx3 (by intro k h1 h2; first | exact h2 | exact .inl h2 | exact .inr h2 | exact (h2 : False).elim | (exfalso; (try simp only [] at *); omega))) hx4 (by intro k h1 h2; first | exact h2 | exact .inl h2 | exact .inr h2 | exact (h2 : False).elim | (exfalso; (try simp only [] at *); omega))) hx5 (by intro k h1 h2; first | exact h2 | exact .inl h2 | exact .inr h2 | exact (h2 : False).elim | (exfalso; (try simp only [] at *); omega))) hk6 (by intro k h1 h2; first | exact h2 | exact .inl h2 | exact .inr h2 | exact (h2 : False).elim | (exfalso; (try simp only [] at *); omega))) hx7 (by intro k h1 h2; first | exact h2 | exact .inl h2 | exact .inr h2 | exact (h2 : False).elim | (exfalso; (try simp only [] at *); omega)))⟩
  | cons y ys => exact ⟨rfl, ((hB5.keep hk6).ext hx7 (by intros; (try simp only []); omega)), ((((hC3.ext hx4 (by intro k hk hk2; first | (replace hk2 : k = hb := hk2; rw [hk2]; exact ⟨hBh, hTh⟩) | refine ⟨by (try simp only [] at *); omega, fun ht => by have := hTb k ht; (try simp only [] at *); omega⟩)).ext hx5 (by intro k hk hk2; first | (replace hk2 : k = hb := hk2; rw [hk2]; exact ⟨hBh, hTh⟩) | refine ⟨by (try simp only [] at *); omega, fun ht => by have := hTb k ht; (try simp only [] at *); omega⟩)).keep hk6).ext hx7 (by intro k hk hk2; first | (replace hk2 : k = hb := hk2; rw [hk2]; exact ⟨hBh, hTh⟩) | refine ⟨by (try simp only [] at *); omega, fun ht => by have := hTb k ht; (try simp only [] at *); omega⟩)), (Ext.andThen (Ext.andThen (Ext.andThen (Ext.andThen (Ext.andThen (Ext.andThen (Ext.andThen (Ext.refl (fun k => T k ∨ k = hb) _) hk1 (by intro k h1 h2; first | exact h2 | exact .inl h2 | exact .inr h2 | exact (h2 : False).elim | (exfalso; (try simp only [] at *); omega))) hx2 (by intro k h1 h2; first | exact h2 | exact .inl h2 | exact .inr h2 | exact (h2 : False).elim | (exfalso; (try simp only [] at *); omega))) hx3 (by intro k h1 h2; first | exact h2 | exact .inl h2 | exact .inr h2 | exact (h2 : False).elim | (exfalso; (try simp only [] at *); omega))) hx4 (by intro k h1 h2; first | exact h2 | exact .inl h2 | exact .inr h2 | exact (h2 : False).elim | (exfalso; (try simp only [] at *); omega))) hx5 (by intro k h1 h2; first | exact h2 | exact .inl h2 | exact .inr h2 | exact (h2 : False).elim | (exfalso; (try simp only [] at *); omega))) hk6 (by intro k h1 h2; first | exact h2 | exact .inl h2 | exact .inr h2 | exact (h2 : False).elim | (exfalso; (try simp only [] at *); omega))) hx7 (by intro k h1 h2; first | exact h2 | exact .inl h2 | exact .inr h2 | exact (h2 : False).elim | (exfalso; (try simp only [] at *); omega)))⟩
-- f65 "(*pedigree/merge.head[pedigree/api.Counted]).pass" params [103] results [] -> [] nfree 0 ntmps 5 names
set_option maxHeartbeats 4000000 in
set_option maxRecDepth 100000 in
theorem cpassb_c (hb : Nat) (c : Value) (x : CT) (t o : Bool) (w : World) (hB : Blk w hb [c, .slice x.1.1 x.1.2.1 x.1.2.2, .int .i64 x.2, .bool t, .bool o] 107) : Ret Try.prog 65 #[.pointer (some ⟨hb, 0, none⟩)] w fun r w' => r = .tuple #[] ∧ Blk w' hb [c, .slice x.1.1 x.1.2.1 x.1.2.2, .int .i64 x.2, .bool false, .bool o] 107 ∧ Ext (fun k => k = hb) w w' := by
  have hhb := hB.lt
  refine X.enter Try.func65 rfl Try.ntmps65 rfl ?_
  refine X.region ?_
  refine X.opw X.wN rfl (X.move rfl) ?_
  refine X.opw X.wN rfl (X.nilCk rfl) ?_
  refine X.opw X.wN rfl (X.fldB (j := 3) Try.underlying107 rfl rfl Try.sizeOf4 rfl) ?_
  refine X.opE X.wN rfl (X.storeE Try.sizeOf4 hB rfl rfl rfl rfl) ?_
  rintro _ w1 ⟨hB1, hx1, hz1⟩
  refine X.opsEnd ?_
  refine X.end0 Try.func65 Try.results65 ?_
  exact ⟨rfl, hB1, (Ext.andThen (Ext.refl (fun k => k = hb) _) hx1 (by intro k h1 h2; first | exact h2 | exact .inl h2 | exact .inr h2 | exact (h2 : False).elim | (exfalso; (try simp only [] at *); omega)))⟩
end Go.Proofs.Ytgfficbkajcdpaa

namespace Go.Proofs.Ytgfficbkajcdpaa
open Go Go.Proofs.Ytgfficbkajcdpaa.X
set_option linter.unusedVariables false
set_option linter.unusedSimpArgs false

abbrev NXC : FuncId := 100
/-- A cursor of counted things as an interface value. -/
def CVC (B : Nat) (T : Nat → Prop) (c : Value) (xs : List CT) (w : World) : Prop := (c = .nilIface ∧ xs = []) ∨ ∃ p, c = .iface 108 p ∧ Cur Try.prog evC zC NXC B T p xs w
theorem CVC.agree {B : Nat} {T : Nat → Prop} {c : Value} {xs : List CT} {w w' : World} (h : CVC B T c xs w) (ha : Agree T B w w') : CVC B T c xs w' := h.imp id fun ⟨p, h1, h2⟩ => ⟨p, h1, h2.agree ha⟩
abbrev hdLC (c : Value) (x : CT) (tk ov : Bool) : List Value := [c, .slice x.1.1 x.1.2.1 x.1.2.2, .int .i64 x.2, .bool tk, .bool ov]
/-- A head that has ys before it, asked already: x is the first. -/
def HdTC (B : Nat) (T : Nat → Prop) (hb : Nat) (ys : List CT) (x : CT) (w : World) : Prop :=
  ∃ c, (∃ ys', ys = x :: ys' ∧ Blk w hb (hdLC c x true false) 107 ∧ CVC B T c ys' w) ∨ (ys = [] ∧ Blk w hb (hdLC c x true true) 107 ∧ c.oneCell' = true)
/-- A head that has ys before it. -/
def HdC (B : Nat) (T : Nat → Prop) (hb : Nat) (ys : List CT) (w : World) : Prop :=
  (∃ c x, Blk w hb (hdLC c x false false) 107 ∧ CVC B T c ys w) ∨ ∃ x, HdTC B T hb ys x w
section
variable {B : Nat} {T : Nat → Prop} {hb : Nat} {ys : List CT} {x : CT} {w w' : World}
theorem HdTC.ext {U : Nat → Prop} (h : HdTC B T hb ys x w) (e : Ext U w w') (hU : ∀ k, k < w.heap.size → U k → B ≤ k ∧ ¬ T k ∧ k ≠ hb) : HdTC B T hb ys x w' := by
  obtain ⟨c, ⟨ys', h1, h2, h3⟩ | ⟨h1, h2, h3⟩⟩ := h
  · exact ⟨c, .inl ⟨ys', h1, h2.ext e (fun h => (hU _ h2.lt h).2.2 rfl), h3.agree (Agree.of_ext e fun k hk hu => ⟨(hU k hk hu).1, (hU k hk hu).2.1⟩)⟩⟩
  · exact ⟨c, .inr ⟨h1, h2.ext e (fun h => (hU _ h2.lt h).2.2 rfl), h3⟩⟩
theorem HdC.ext {U : Nat → Prop} (h : HdC B T hb ys w) (e : Ext U w w') (hU : ∀ k, k < w.heap.size → U k → B ≤ k ∧ ¬ T k ∧ k ≠ hb) : HdC B T hb ys w' := by
  rcases h with ⟨c, x, h1, h2⟩ | ⟨x, h⟩
  · exact .inl ⟨c, x, h1.ext e (fun h => (hU _ h1.lt h).2.2 rfl), h2.agree (Agree.of_ext e fun k hk hu => ⟨(hU k hk hu).1, (hU k hk hu).2.1⟩)⟩
  · exact .inr ⟨x, h.ext e hU⟩
theorem HdTC.head {y : CT} {l : List CT} (h : HdTC B T hb (y :: l) x w) : x = y := by
  obtain ⟨c, ⟨ys', h1, _⟩ | ⟨h1, _⟩⟩ := h
  · injection h1 with h1; exact h1.symm
  · cases h1
theorem clook_c (w : World) (h : HdC B T hb ys w) (hBs : B ≤ w.heap.size) (hBh : B ≤ hb) (hTh : ¬ T hb) (hTb : ∀ k, T k → k < w.heap.size) :
    Ret Try.prog 64 #[.pointer (some ⟨hb, 0, none⟩)] w fun r w' => ∃ x, r = .tuple #[evC x, .bool (!ys.isEmpty)] ∧ HdTC B T hb ys x w' ∧ Ext (fun k => T k ∨ k = hb) w w' := by
  rcases h with ⟨c, x, h1, ⟨rfl, rfl⟩ | ⟨p, rfl, h2⟩⟩ | ⟨x, c, ⟨ys', rfl, h1, h2⟩ | ⟨rfl, h1, h2⟩⟩
  · refine (clookn_c hb x w h1).mono fun r w' ⟨e, b, k⟩ => ⟨x, e, ⟨_, .inr ⟨rfl, b, rfl⟩⟩, k.mono fun _ _ h => .inr h⟩
  · refine (clookc_c hb x w h1 h2 hBs hBh hTh hTb).mono fun r w' ⟨e, b, k, g⟩ => ?_
    cases ys with
    | nil => exact ⟨_, e, ⟨_, .inr ⟨rfl, b, rfl⟩⟩, g⟩
    | cons y ys => exact ⟨_, e, ⟨_, .inl ⟨ys, rfl, b, .inr ⟨p, rfl, k⟩⟩⟩, g⟩
  · exact (clookt_c hb c x w h1).mono fun r w' ⟨e, k⟩ => ⟨x, e, ⟨c, .inl ⟨ys', rfl, h1.keep k, h2.agree (Agree.of_keep k)⟩⟩, k.mono fun _ _ h => h.elim⟩
  · exact (clooko_c hb c x w h1).mono fun r w' ⟨e, k⟩ => ⟨x, e, ⟨c, .inr ⟨rfl, h1.keep k, h2⟩⟩, k.mono fun _ _ h => h.elim⟩
theorem cpass_c {y : CT} (w : World) (h : HdTC B T hb (y :: ys) x w) (hBh : B ≤ hb) (hTh : ¬ T hb) :
    Ret Try.prog 65 #[.pointer (some ⟨hb, 0, none⟩)] w fun r w' => r = .tuple #[] ∧ HdC B T hb ys w' ∧ Ext (fun k => k = hb) w w' := by
  obtain ⟨c, ⟨ys', h1, h2, h3⟩ | ⟨h1, _⟩⟩ := h
  · obtain ⟨rfl, rfl⟩ := List.cons.inj h1
    exact (cpassb_c hb c _ true false w h2).mono fun r w' ⟨e, b, k⟩ => ⟨e, .inl ⟨c, _, b, h3.agree (Agree.of_ext k fun i _ hi => by rw [show i = hb from hi]; exact ⟨hBh, hTh⟩)⟩, k⟩
  · cases h1
end

end Go.Proofs.Ytgfficbkajcdpaa

namespace Go.Proofs.Ytgfficbkajcdpaa
open Go Go.Proofs.Ytgfficbkajcdpaa.X
set_option linter.unusedVariables false
set_option linter.unusedSimpArgs false

abbrev PKC := Option (Nat × CT)
def bestXC (o : PKC) : CT := (o.map (·.2)).getD zC
def bestPC (hb : Nat → Nat) (o : PKC) : Option Addr := o.map fun p => ⟨hb p.1, 0, none⟩
/-- The first of the least heads among the first. -/
def pkC (lt : CT → CT → Bool) (L : Nat → List CT) : Nat → PKC
  | 0 => none
  | j + 1 => match L j, pkC lt L j with
    | [], o => o
    | y :: _, none => some (j, y)
    | y :: _, some (i, x) => if lt y x then some (j, y) else some (i, x)
section
variable {lt : CT → CT → Bool} {L : Nat → List CT} {j : Nat}
theorem pkC_nil (h : L j = []) : pkC lt L (j + 1) = pkC lt L j := by rw [pkC, h]
theorem pkC_new {y : CT} {l : List CT} (h : L j = y :: l) (h2 : (pkC lt L j) = none ∨ lt y (bestXC (pkC lt L j)) = true) : pkC lt L (j + 1) = some (j, y) := by
  rw [pkC, h]
  cases hp : pkC lt L j with
  | none => rfl
  | some q =>
    rw [hp] at h2
    simp [bestXC] at h2
    simp [h2]
theorem pkC_old {y : CT} {l : List CT} (h : L j = y :: l) (h1 : (pkC lt L j) ≠ none) (h2 : ¬ lt y (bestXC (pkC lt L j)) = true) : pkC lt L (j + 1) = pkC lt L j := by
  rw [pkC, h]
  cases hp : pkC lt L j with
  | none => exact absurd hp h1
  | some q =>
    rw [hp] at h2
    simp [bestXC] at h2
    simp [h2]
theorem pkC_some : ∀ {n i : Nat} {x : CT}, pkC lt L n = some (i, x) → i < n ∧ ∃ l, L i = x :: l
  | 0, i, x, h => by cases h
  | n + 1, i, x, h => by
    rw [pkC] at h
    split at h
    · obtain ⟨h1, h2⟩ := pkC_some h; exact ⟨by omega, h2⟩
    · rename_i y l hl hp
      cases h; exact ⟨by omega, l, hl⟩
    · rename_i y l i' x' hl hp
      split at h
      · cases h; exact ⟨by omega, l, hl⟩
      · cases h; obtain ⟨h1, h2⟩ := pkC_some hp; exact ⟨by omega, h2⟩
theorem pkC_none : ∀ {n : Nat}, pkC lt L n = none → ∀ i, i < n → L i = []
  | 0, _, i, h => by omega
  | n + 1, h, i, hi => by
    rw [pkC] at h
    split at h
    · rename_i o hl
      rcases Nat.lt_succ_iff_lt_or_eq.1 hi with h1 | rfl
      · exact pkC_none h i h1
      · exact hl
    · cases h
    · split at h <;> cases h
def updLC (L : Nat → List CT) (i : Nat) : Nat → List CT := fun j => if j = i then (L j).tail else L j
def totLC (L : Nat → List CT) : Nat → Nat
  | 0 => 0
  | n + 1 => totLC L n + (L n).length
theorem totLC_upd {x : CT} {l : List CT} {i : Nat} (h : L i = x :: l) : ∀ n, totLC (updLC L i) n + (if i < n then 1 else 0) = totLC L n
  | 0 => by simp [totLC]
  | n + 1 => by
    have := totLC_upd h n
    rw [totLC, totLC]
    by_cases h1 : n = i
    · subst h1
      simp [updLC, h] at this ⊢
      omega
    · have e : updLC L i n = L n := by simp [updLC, h1]
      rw [e]
      by_cases h2 : i < n
      · simp [h2, show i < n + 1 by omega] at this ⊢; omega
      · simp [h2, show ¬ i < n + 1 by omega] at this ⊢; omega
def mgFC (lt : CT → CT → Bool) (n : Nat) : Nat → (Nat → List CT) → List CT
  | 0, _ => []
  | f + 1, L => match pkC lt L n with
    | none => []
    | some (i, x) => x :: mgFC lt n f (updLC L i)
def mgCC (lt : CT → CT → Bool) (n : Nat) (L : Nat → List CT) : List CT := mgFC lt n (totLC L n) L
theorem mgCC_none {n : Nat} (h : pkC lt L n = none) : mgCC lt n L = [] := by
  rw [mgCC]; cases totLC L n with
  | zero => rfl
  | succ f => rw [mgFC, h]
theorem mgCC_some {n i : Nat} {x : CT} (h : pkC lt L n = some (i, x)) : mgCC lt n L = x :: mgCC lt n (updLC L i) := by
  obtain ⟨h1, l, h2⟩ := pkC_some h
  have := totLC_upd h2 n
  rw [if_pos h1] at this
  rw [mgCC, ← this, mgFC, h]
  rfl
theorem mgCC_len : ∀ (t n : Nat) (L : Nat → List CT), totLC L n = t → (mgCC lt n L).length ≤ t
  | 0, n, L, h => by rw [mgCC, h]; simp [mgFC]
  | t + 1, n, L, h => by
    cases hp : pkC lt L n with
    | none => rw [mgCC_none hp]; simp
    | some q =>
      obtain ⟨i, x⟩ := q
      rw [mgCC_some hp]
      obtain ⟨h1, l, h2⟩ := pkC_some hp
      have := totLC_upd h2 n
      rw [if_pos h1] at this
      have := mgCC_len t n (updLC L i) (by omega)
      simp; omega
end
end Go.Proofs.Ytgfficbkajcdpaa
