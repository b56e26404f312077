/- Texts that the proof of DiskRoom stands on, part 13. -/
import Derived.Test.YtcdebnppbnmmgaaGreatProg
import Derived.Test.YtcdebnppbnmmgaaGreatBunDiskRoom12

namespace Go.Proofs.YtcdebnppbnmmgaaGreat
open Go Go.Proofs.YtcdebnppbnmmgaaGreat.X
set_option linter.unusedVariables false
set_option linter.unusedSimpArgs false
theorem ERb : ElemInfo Tryz.prog 5 1 1 := ElemInfo.of (z := .int .u8 0) (by kernel_rfl) rfl rfl rfl
theorem ERbi : ByteInfo Tryz.prog 5 := ByteInfo.of (by kernel_rfl)
theorem ERs : ElemInfo Tryz.prog 9 1 16 := ElemInfo.of (z := .string ⟨#[]⟩) (by kernel_rfl) rfl rfl rfl
theorem rrepsS {w : World} (x : ByteArray) (h : x.size ≤ 9223372036854775807) : RepsV KS w [x] [.string x] := ⟨⟨_, rfl, rfl, h⟩, trivial⟩
def rsec (n : Nat) : Nat := (n + 63) / 64
def rfat (t : RS) (k : Int) : RF := t.fs.getD k.toNat ([], [], [])
theorem rfind_at {nm : ByteArray} {l : DIR} (h : 0 ≤ rfind nm l) : (nm, rfind nm l) ∈ l := by
  rw [rfind] at h ⊢
  cases ha : asc nm l with
  | none => rw [ha] at h; simp at h
  | some k => exact asc_some ha
theorem rfat_at {t : RS} {k : Int} {f : RF} (h : t.fs[k.toNat]? = some f) : rfat t k = f := by rw [rfat, List.getD_eq_getElem?_getD, h]; rfl
theorem RkB.at_ {col : Nat → Nat} {x : Nat} {vF vD vX vC : Value} {pt : List Nat} {t : RS} {w : World} (h : RkB col w x vF vD vX vC pt t) (hok : t.Ok) {k : Int} (hk : 0 ≤ k ∧ k < t.fs.length) : ∃ p f v1 v2 v3, pt[k.toNat]? = some p ∧ t.fs[k.toNat]? = some f ∧ FlK col w k.toNat p v1 v2 v3 f := by
  have hpl := h.pl
  obtain ⟨p, hp⟩ : ∃ p, pt[k.toNat]? = some p := ⟨pt[k.toNat]'(by omega), List.getElem?_eq_getElem _⟩
  obtain ⟨f, hf⟩ : ∃ f, t.fs[k.toNat]? = some f := ⟨t.fs[k.toNat]'(by omega), List.getElem?_eq_getElem _⟩
  obtain ⟨v1, v2, v3, hfl⟩ := h.fl _ p f hp hf
  exact ⟨p, f, v1, v2, v3, hp, hf, hfl⟩
def RS.sizeOf (nm : ByteArray) (t : RS) : Int × Int := if rfind nm t.dir < 0 then (0, 52) else (((rfat t (rfind nm t.dir)).1.length : Int), 0)
def RS.read (nm : ByteArray) (a n : Int) (t : RS) : List UInt8 × Int := if rfind nm t.dir < 0 then ([], 52) else if a < 0 ∨ n < 0 ∨ ((rfat t (rfind nm t.dir)).1.length : Int) < a ∨ ((rfat t (rfind nm t.dir)).1.length : Int) - a < n then ([], 5) else (((rfat t (rfind nm t.dir)).1.drop a.toNat).take n.toNat, 0)
def rcost (t : RS) (l : DIR) : Nat := (l.map fun e => rsec (rfat t e.2).1.length).sum
def RS.used (t : RS) : Nat := rcost t t.dir
set_option maxHeartbeats 4000000 in
set_option maxRecDepth 100000 in
theorem RSize_c {col : Nat → Nat} {x : Nat} {vF vD vX vC : Value} {pt : List Nat} {t : RS} (nm : ByteArray) (w : World) (h : RkB col w x vF vD vX vC pt t) (hok : t.Ok) : Ret Tryz.prog 39 #[ptrV x, .string nm] w fun r w' => r = .tuple #[.int .i64 (t.sizeOf nm).1, .int .i64 (t.sizeOf nm).2] ∧ Keep w w' := by
  obtain ⟨AD, cD, e, hcD, hsD⟩ := h.D.slF KEn_flat 0 (fun _ _ => Nat.zero_le _)
  subst e
  obtain ⟨AC, cC, e, hcC, hsC⟩ := h.C.slF KCh_flat 0 (fun _ _ => Nat.zero_le _)
  subst e
  obtain ⟨AF, cF, e, hcF, hsF⟩ := h.F.slF KRp_flat 0 (fun _ _ => Nat.zero_le _)
  subst e
  have hB := h.B
  have hxl := h.B.lt
  have hlt := h.lt
  have hcx := h.cx
  have hok1 := hok.few
  have hok2 := hok.many
  have hok3 := hok.left
  have hplx := h.pl
  refine X.enter Tryz.func39 rfl Tryz.ntmps39 rfl ?_
  refine X.seq ?_
  refine X.region ?_
  refine X.opw X.wN rfl (X.assign rfl) ?_
  refine X.opw X.wN rfl (X.assign rfl) ?_
  refine X.opsEnd ?_
  refine X.seq ?_
  refine X.region ?_
  refine X.opw X.wN rfl (X.move rfl) ?_
  refine X.opw X.wN rfl (X.nilCk rfl) ?_
  refine X.opw X.wN rfl (X.fldB (j := 2) Tryz.underlying83 rfl rfl Tryz.sizeOf80 rfl) ?_
  refine X.opw X.wN rfl (X.load1B Tryz.isAgg80 hB rfl rfl) ?_
  refine X.opw X.wN rfl (X.move (v := .string _) rfl) ?_
  refine X.opE X.wN rfl (X.callE (Find_c nm _ hsD (by omega)) Tryz.call56 rfl rfl) ?_
  rintro _ w1 ⟨rfl, hk1⟩
  have hk1' := hk1.size
  refine X.opw X.wN rfl (X.assign (v := .int .i64 _) rfl) ?_
  refine X.opsEnd ?_
  refine X.seq ?_
  refine X.seq ?_
  refine X.region ?_
  refine X.opw X.wN rfl (X.move (v := .int .i64 _) rfl) ?_
  refine X.opP X.wN rfl rfl (X.lss rfl rfl) (fun h14 => ?_) (fun h14 => ?_)
  · refine X.opsEnd ?_
    refine X.condT rfl ?_
    refine X.seq ?_
    refine X.region ?_
    refine X.opw X.wN rfl (X.assign rfl) ?_
    refine X.opw X.wN rfl (X.assign rfl) ?_
    refine X.opsEnd ?_
    refine X.ret2 (v1 := (.int .i64 _)) (v2 := (.int .i64 _)) Tryz.func39 Tryz.results39 rfl rfl ?_
    exact ⟨by rw [RS.sizeOf, if_pos h14], hk1⟩
  · have hk0 : 0 ≤ rfind nm t.dir := by omega
    have hk1' := hok.dir _ (rfind_at hk0)
    obtain ⟨p, f, v1, v2, v3, hpp, hff, hfl⟩ := h.at_ hok ⟨hk0, hk1'.2⟩
    have hfB := hfl.B
    have hfc := hfl.c
    have hfpl := hfB.lt
    have hfok := hok.fs f (List.mem_of_getElem? hff)
    have hfat := rfat_at hff
    obtain ⟨Af1, cf1, e, hcf1, hf1⟩ := hfl.M1.slF KB_flat 0 (fun _ _ => Nat.zero_le _)
    subst e
    obtain ⟨Af2, cf2, e, hcf2, hf2⟩ := hfl.M2.slF KB_flat 0 (fun _ _ => Nat.zero_le _)
    subst e
    obtain ⟨Af3, cf3, e, hcf3, hf3⟩ := hfl.M3.slF KI_flat 0 (fun _ _ => Nat.zero_le _)
    subst e
    refine X.opsEnd ?_
    refine X.condF rfl ?_
    refine X.skip ?_
    refine X.seq ?_
    refine X.region ?_
    refine X.opw X.wN rfl (X.move rfl) ?_
    refine X.opw X.wN rfl (X.nilCk rfl) ?_
    refine X.opw X.wN rfl (X.fldB (j := 1) Tryz.underlying83 rfl rfl Tryz.sizeOf79 rfl) ?_
    refine X.opw X.wN rfl (X.load1B Tryz.isAgg79 (hB.keep hk1) rfl rfl) ?_
    refine X.opw X.wN rfl (X.move (v := .int .i64 _) rfl) ?_
    refine X.opw X.wN rfl (X.idxS (hsF.keep hk1) Tryz.underlying79 Tryz.sizeOf108 rfl rfl ⟨by omega, by omega⟩) ?_
    refine X.opw X.wN rfl (X.loadS Tryz.isAgg108 (hsF.keep hk1) hpp rfl (fun _ h => by rw [h.1]; rfl)) ?_
    refine X.opw X.wN rfl (X.nilCk rfl) ?_
    refine X.opw X.wN rfl (X.fldB (j := 0) Tryz.underlying110 rfl rfl Tryz.sizeOf31 rfl) ?_
    refine X.opw X.wN rfl (X.load1B Tryz.isAgg31 (hfB.keep hk1) rfl rfl) ?_
    refine X.opw X.wN rfl (X.lenSl Tryz.underlying31 rfl) ?_
    refine X.opw X.wN rfl (X.assign (v := .int .i64 _) rfl) ?_
    refine X.opw X.wN rfl (X.assign rfl) ?_
    refine X.opsEnd ?_
    refine X.ret2 (v1 := (.int .i64 _)) (v2 := (.int .i64 _)) Tryz.func39 Tryz.results39 rfl rfl ?_
    exact ⟨by rw [RS.sizeOf, if_neg h14, hfat], hk1⟩
set_option maxHeartbeats 4000000 in
set_option maxRecDepth 100000 in
theorem RRead_c {col : Nat → Nat} {x : Nat} {vF vD vX vC : Value} {pt : List Nat} {t : RS} (nm : ByteArray) (a n : Int) (w : World) (h : RkB col w x vF vD vX vC pt t) (hok : t.Ok) (han : -9223372036854775808 ≤ a ∧ a ≤ 9223372036854775807 ∧ -9223372036854775808 ≤ n ∧ n ≤ 9223372036854775807) : Ret Tryz.prog 40 #[ptrV x, .string nm, .int .i64 a, .int .i64 n] w fun r w' => ∃ v, r = .tuple #[v, .int .i64 (t.read nm a n).2] ∧ Mine KB 5 (fun q => w.heap.size ≤ q) 0 0 w' v (t.read nm a n).1 ∧ Keep w w' := by
  obtain ⟨AD, cD, e, hcD, hsD⟩ := h.D.slF KEn_flat 0 (fun _ _ => Nat.zero_le _)
  subst e
  obtain ⟨AC, cC, e, hcC, hsC⟩ := h.C.slF KCh_flat 0 (fun _ _ => Nat.zero_le _)
  subst e
  obtain ⟨AF, cF, e, hcF, hsF⟩ := h.F.slF KRp_flat 0 (fun _ _ => Nat.zero_le _)
  subst e
  have hB := h.B
  have hxl := h.B.lt
  have hlt := h.lt
  have hcx := h.cx
  have hok1 := hok.few
  have hok2 := hok.many
  have hok3 := hok.left
  have hplx := h.pl
  refine X.enter Tryz.func40 rfl Tryz.ntmps40 rfl ?_
  refine X.seq ?_
  refine X.region ?_
  refine X.opw X.wN rfl (X.assign rfl) ?_
  refine X.opw X.wN rfl (X.assign rfl) ?_
  refine X.opsEnd ?_
  refine X.seq ?_
  refine X.region ?_
  refine X.opw X.wN rfl (X.move rfl) ?_
  refine X.opw X.wN rfl (X.nilCk rfl) ?_
  refine X.opw X.wN rfl (X.fldB (j := 2) Tryz.underlying83 rfl rfl Tryz.sizeOf80 rfl) ?_
  refine X.opw X.wN rfl (X.load1B Tryz.isAgg80 hB rfl rfl) ?_
  refine X.opw X.wN rfl (X.move (v := .string _) rfl) ?_
  refine X.opE X.wN rfl (X.callE (Find_c nm _ hsD (by omega)) Tryz.call56 rfl rfl) ?_
  rintro _ w1 ⟨rfl, hk1⟩
  have hk1' := hk1.size
  refine X.opw X.wN rfl (X.assign (v := .int .i64 _) rfl) ?_
  refine X.opsEnd ?_
  refine X.seq ?_
  refine X.seq ?_
  refine X.region ?_
  refine X.opw X.wN rfl (X.move (v := .int .i64 _) rfl) ?_
  refine X.opP X.wN rfl rfl (X.lss rfl rfl) (fun h19 => ?_) (fun h19 => ?_)
  · refine X.opsEnd ?_
    refine X.condT rfl ?_
    refine X.seq ?_
    refine X.region ?_
    refine X.opw X.wN rfl (X.assign rfl) ?_
    refine X.opw X.wN rfl (X.assign rfl) ?_
    refine X.opsEnd ?_
    refine X.ret2 (v2 := (.int .i64 _)) Tryz.func40 Tryz.results40 rfl rfl ?_
    exact ⟨_, by rw [RS.read, if_pos h19], by rw [RS.read, if_pos h19]; exact Mine.nil _ _ _ _ _ _, hk1⟩
  · have hk0 : 0 ≤ rfind nm t.dir := by omega
    have hk1' := hok.dir _ (rfind_at hk0)
    obtain ⟨p, f, v1, v2, v3, hpp, hff, hfl⟩ := h.at_ hok ⟨hk0, hk1'.2⟩
    have hfB := hfl.B
    have hfc := hfl.c
    have hfpl := hfB.lt
    have hfok := hok.fs f (List.mem_of_getElem? hff)
    have hfat := rfat_at hff
    obtain ⟨Af1, cf1, e, hcf1, hf1⟩ := hfl.M1.slF KB_flat 0 (fun _ _ => Nat.zero_le _)
    subst e
    obtain ⟨Af2, cf2, e, hcf2, hf2⟩ := hfl.M2.slF KB_flat 0 (fun _ _ => Nat.zero_le _)
    subst e
    obtain ⟨Af3, cf3, e, hcf3, hf3⟩ := hfl.M3.slF KI_flat 0 (fun _ _ => Nat.zero_le _)
    subst e
    refine X.opsEnd ?_
    refine X.condF rfl ?_
    refine X.skip ?_
    refine X.seq ?_
    refine X.region ?_
    refine X.opw X.wN rfl (X.move rfl) ?_
    refine X.opw X.wN rfl (X.nilCk rfl) ?_
    refine X.opw X.wN rfl (X.fldB (j := 1) Tryz.underlying83 rfl rfl Tryz.sizeOf79 rfl) ?_
    refine X.opw X.wN rfl (X.load1B Tryz.isAgg79 (hB.keep hk1) rfl rfl) ?_
    refine X.opw X.wN rfl (X.move (v := .int .i64 _) rfl) ?_
    refine X.opw X.wN rfl (X.idxS (hsF.keep hk1) Tryz.underlying79 Tryz.sizeOf108 rfl rfl ⟨by omega, by omega⟩) ?_
    refine X.opw X.wN rfl (X.loadS Tryz.isAgg108 (hsF.keep hk1) hpp rfl (fun _ h => by rw [h.1]; rfl)) ?_
    refine X.opw X.wN rfl (X.nilCk rfl) ?_
    refine X.opw X.wN rfl (X.fldB (j := 0) Tryz.underlying110 rfl rfl Tryz.sizeOf31 rfl) ?_
    refine X.opw X.wN rfl (X.load1B Tryz.isAgg31 (hfB.keep hk1) rfl rfl) ?_
    refine X.opw X.wN rfl (X.assign (v := .slice _ _ _) rfl) ?_
    refine X.opsEnd ?_
    refine X.seq ?_
    refine X.seq ?_
    refine X.region ?_
    refine X.opw X.wN rfl (X.move (v := .int .i64 _) rfl) ?_
    refine X.opP X.wN rfl rfl (X.lss rfl rfl) (fun h31 => ?_) (fun h31 => ?_)
    · refine X.opw X.wN rfl (X.move (v := .bool true) rfl) ?_
      refine X.opS rfl rfl rfl rfl rfl ?_
      refine X.opS rfl rfl rfl rfl rfl ?_
      refine X.opw X.wN rfl (X.pickT (v := .bool true) rfl rfl) ?_
      refine X.opw X.wN rfl (X.move (v := .bool true) rfl) ?_
      refine X.opS rfl rfl rfl rfl rfl ?_
      refine X.opS rfl rfl rfl rfl rfl ?_
      refine X.opS rfl rfl rfl rfl rfl ?_
      refine X.opS rfl rfl rfl rfl rfl ?_
      refine X.opw X.wN rfl (X.pickT (v := .bool true) rfl rfl) ?_
      refine X.opw X.wN rfl (X.move (v := .bool true) rfl) ?_
      refine X.opS rfl rfl rfl rfl rfl ?_
      refine X.opS rfl rfl rfl rfl rfl ?_
      refine X.opS rfl rfl rfl rfl rfl ?_
      refine X.opS rfl rfl rfl rfl rfl ?_
      refine X.opS rfl rfl rfl rfl rfl ?_
      refine X.opS rfl rfl rfl rfl rfl ?_
      refine X.opw X.wN rfl (X.pickT (v := .bool true) rfl rfl) ?_
      refine X.opsEnd ?_
      refine X.condT rfl ?_
      refine X.seq ?_
      refine X.region ?_
      refine X.opw X.wN rfl (X.assign rfl) ?_
      refine X.opw X.wN rfl (X.assign rfl) ?_
      refine X.opsEnd ?_
      refine X.ret2 (v2 := (.int .i64 _)) Tryz.func40 Tryz.results40 rfl rfl ?_
      exact ⟨_, by rw [RS.read, if_neg h19, hfat, if_pos (by omega)], by rw [RS.read, if_neg h19, hfat, if_pos (by omega)]; exact Mine.nil _ _ _ _ _ _, hk1⟩
    · refine X.opw X.wN rfl (X.move (v := .bool false) rfl) ?_
      refine X.opw (X.wG rfl rfl rfl) rfl (X.move (v := .int .i64 _) rfl) ?_
      refine X.opP (X.wG rfl rfl rfl) rfl rfl (X.lss rfl rfl) (fun h34 => ?_) (fun h34 => ?_)
      · refine X.opw X.wN rfl (X.pickF (v := .bool true) rfl rfl) ?_
        refine X.opw X.wN rfl (X.move (v := .bool true) rfl) ?_
        refine X.opS rfl rfl rfl rfl rfl ?_
        refine X.opS rfl rfl rfl rfl rfl ?_
        refine X.opS rfl rfl rfl rfl rfl ?_
        refine X.opS rfl rfl rfl rfl rfl ?_
        refine X.opw X.wN rfl (X.pickT (v := .bool true) rfl rfl) ?_
        refine X.opw X.wN rfl (X.move (v := .bool true) rfl) ?_
        refine X.opS rfl rfl rfl rfl rfl ?_
        refine X.opS rfl rfl rfl rfl rfl ?_
        refine X.opS rfl rfl rfl rfl rfl ?_
        refine X.opS rfl rfl rfl rfl rfl ?_
        refine X.opS rfl rfl rfl rfl rfl ?_
        refine X.opS rfl rfl rfl rfl rfl ?_
        refine X.opw X.wN rfl (X.pickT (v := .bool true) rfl rfl) ?_
        refine X.opsEnd ?_
        refine X.condT rfl ?_
        refine X.seq ?_
        refine X.region ?_
        refine X.opw X.wN rfl (X.assign rfl) ?_
        refine X.opw X.wN rfl (X.assign rfl) ?_
        refine X.opsEnd ?_
        refine X.ret2 (v2 := (.int .i64 _)) Tryz.func40 Tryz.results40 rfl rfl ?_
        exact ⟨_, by rw [RS.read, if_neg h19, hfat, if_pos (by omega)], by rw [RS.read, if_neg h19, hfat, if_pos (by omega)]; exact Mine.nil _ _ _ _ _ _, hk1⟩
      · refine X.opw X.wN rfl (X.pickF (v := .bool false) rfl rfl) ?_
        refine X.opw X.wN rfl (X.move (v := .bool false) rfl) ?_
        refine X.opw (X.wG rfl rfl rfl) rfl (X.move (v := .int .i64 _) rfl) ?_
        refine X.opw (X.wG rfl rfl rfl) rfl (X.move (v := .slice _ _ _) rfl) ?_
        refine X.opw (X.wG rfl rfl rfl) rfl (X.lenSl Tryz.underlying31 rfl) ?_
        refine X.opP (X.wG rfl rfl rfl) rfl rfl (X.gtr rfl rfl) (fun h40 => ?_) (fun h40 => ?_)
        · refine X.opw X.wN rfl (X.pickF (v := .bool true) rfl rfl) ?_
          refine X.opw X.wN rfl (X.move (v := .bool true) rfl) ?_
          refine X.opS rfl rfl rfl rfl rfl ?_
          refine X.opS rfl rfl rfl rfl rfl ?_
          refine X.opS rfl rfl rfl rfl rfl ?_
          refine X.opS rfl rfl rfl rfl rfl ?_
          refine X.opS rfl rfl rfl rfl rfl ?_
          refine X.opS rfl rfl rfl rfl rfl ?_
          refine X.opw X.wN rfl (X.pickT (v := .bool true) rfl rfl) ?_
          refine X.opsEnd ?_
          refine X.condT rfl ?_
          refine X.seq ?_
          refine X.region ?_
          refine X.opw X.wN rfl (X.assign rfl) ?_
          refine X.opw X.wN rfl (X.assign rfl) ?_
          refine X.opsEnd ?_
          refine X.ret2 (v2 := (.int .i64 _)) Tryz.func40 Tryz.results40 rfl rfl ?_
          exact ⟨_, by rw [RS.read, if_neg h19, hfat, if_pos (by omega)], by rw [RS.read, if_neg h19, hfat, if_pos (by omega)]; exact Mine.nil _ _ _ _ _ _, hk1⟩
        · refine X.opw X.wN rfl (X.pickF (v := .bool false) rfl rfl) ?_
          refine X.opw X.wN rfl (X.move (v := .bool false) rfl) ?_
          refine X.opw (X.wG rfl rfl rfl) rfl (X.move (v := .int .i64 _) rfl) ?_
          refine X.opw (X.wG rfl rfl rfl) rfl (X.move (v := .slice _ _ _) rfl) ?_
          refine X.opw (X.wG rfl rfl rfl) rfl (X.lenSl Tryz.underlying31 rfl) ?_
          refine X.opw (X.wG rfl rfl rfl) rfl (X.move (v := .int .i64 _) rfl) ?_
          refine X.opw (X.wG rfl rfl rfl) rfl (X.sub rfl rfl (X.w_i64 (by omega))) ?_
          refine X.opP (X.wG rfl rfl rfl) rfl rfl (X.gtr rfl rfl) (fun h48 => ?_) (fun h48 => ?_)
          · refine X.opw X.wN rfl (X.pickF (v := .bool true) rfl rfl) ?_
            refine X.opsEnd ?_
            refine X.condT rfl ?_
            refine X.seq ?_
            refine X.region ?_
            refine X.opw X.wN rfl (X.assign rfl) ?_
            refine X.opw X.wN rfl (X.assign rfl) ?_
            refine X.opsEnd ?_
            refine X.ret2 (v2 := (.int .i64 _)) Tryz.func40 Tryz.results40 rfl rfl ?_
            exact ⟨_, by rw [RS.read, if_neg h19, hfat, if_pos (by omega)], by rw [RS.read, if_neg h19, hfat, if_pos (by omega)]; exact Mine.nil _ _ _ _ _ _, hk1⟩
          · refine X.opw X.wN rfl (X.pickF (v := .bool false) rfl rfl) ?_
            refine X.opsEnd ?_
            refine X.condF rfl ?_
            refine X.skip ?_
            refine X.seq ?_
            refine X.region ?_
            refine X.opE X.wN rfl (X.lit0E (K := KB) (S := fun k => w.heap.size ≤ k) Tryz.underlying31 Tryz.sizeOf5 (by intros; (try simp only [] at *); omega)) ?_
            rintro v2 w2 ⟨hM2, hk2, hz2⟩
            refine X.opw X.wN rfl (X.move (v := .slice _ _ _) rfl) ?_
            refine X.opw X.wN rfl (X.move (v := .int .i64 _) rfl) ?_
            refine X.opw X.wN rfl (X.move (v := .int .i64 _) rfl) ?_
            refine X.opw X.wN rfl (X.move (v := .int .i64 _) rfl) ?_
            refine X.opw X.wN rfl (X.add rfl rfl (X.w_i64 (by omega))) ?_
            refine X.opw X.wN rfl (X.cutLH Tryz.underlying31 Tryz.sizeOf5 rfl rfl rfl (by omega)) ?_
            refine X.opE X.wN rfl (X.appE (K := KB) (S := fun k => w.heap.size ≤ k) KB_flat Tryz.underlying31 ERb rfl rfl hM2 (((hf1.take (a + n).toNat (by omega)).drop a.toNat cf1 (by omega) (by omega)).keep (hk1.trans hk2)) (by (try simp only [List.length_append, List.length_cons, List.length_nil, List.length_take, List.length_drop, List.length_map, List.length_range]); omega) (by intros; (try simp only [] at *); omega)) ?_
            rintro v3 w3 ⟨hM3, hx3⟩
            have hx3' := hx3.size
            refine X.opw X.wN rfl (X.assign rfl) ?_
            refine X.opw X.wN rfl (X.assign rfl) ?_
            refine X.opsEnd ?_
            refine X.ret2 (v2 := (.int .i64 _)) Tryz.func40 Tryz.results40 rfl rfl ?_
            have e : t.read nm a n = ((f.1.drop a.toNat).take n.toNat, 0) := by rw [RS.read, if_neg h19, hfat, if_neg (by omega)]
            have e2 : (f.1.take (a + n).toNat).drop a.toNat = (f.1.drop a.toNat).take n.toNat := by rw [List.drop_take]; congr 1; omega
            refine ⟨_, by rw [e], ?_, ((hk1.trans hk2).step hx3 (by intros; (try simp only [] at *); omega))⟩
            rw [e]
            have hM := hM3
            rw [List.nil_append, e2] at hM
            exact hM
set_option maxHeartbeats 4000000 in
set_option maxRecDepth 100000 in
theorem RNames_c {col : Nat → Nat} {x : Nat} {vF vD vX vC : Value} {pt : List Nat} {t : RS} (w : World) (h : RkB col w x vF vD vX vC pt t) (hok : t.Ok) (hnz : ∀ p, p ∈ t.dir → p.1.size ≤ 64) : Ret Tryz.prog 35 #[ptrV x] w fun r w' => Mine KS 9 (fun k => w.heap.size ≤ k) 0 0 w' r (t.dir.map (·.1)) ∧ Keep w w' := by
  obtain ⟨AD, cD, e, hcD, hsD⟩ := h.D.slF KEn_flat 0 (fun _ _ => Nat.zero_le _)
  subst e
  obtain ⟨AC, cC, e, hcC, hsC⟩ := h.C.slF KCh_flat 0 (fun _ _ => Nat.zero_le _)
  subst e
  obtain ⟨AF, cF, e, hcF, hsF⟩ := h.F.slF KRp_flat 0 (fun _ _ => Nat.zero_le _)
  subst e
  have hB := h.B
  have hxl := h.B.lt
  have hlt := h.lt
  have hcx := h.cx
  have hok1 := hok.few
  have hok2 := hok.many
  have hok3 := hok.left
  refine X.enter Tryz.func35 rfl Tryz.ntmps35 rfl ?_
  refine X.seq ?_
  refine X.region ?_
  refine X.opw X.wN rfl (X.assign rfl) ?_
  refine X.opsEnd ?_
  refine X.seq ?_
  refine X.region ?_
  refine X.opw X.wN rfl (X.assign rfl) ?_
  refine X.opsEnd ?_
  refine X.seq ?_
  refine X.seq ?_
  refine X.region ?_
  refine X.opw X.wN rfl (X.assign rfl) ?_
  refine X.opsEnd ?_
  refine X.block ?_
  refine X.loopL (σ := Nat × Value) (fun s => [(0, ptrV x), (3, s.2), (4, .int .i64 (s.1 : Int))]) (fun s w' => s.1 ≤ t.dir.length ∧ Mine KS 9 (fun k => w.heap.size ≤ k) 0 0 w' s.2 ((t.dir.take s.1).map (·.1)) ∧ Keep w w') (fun s => t.dir.length - s.1) (0, _) ⟨rfl, rfl, rfl, trivial⟩ ⟨Nat.zero_le _, Mine.nil _ _ _ _ _ _, (Keep.refl _)⟩ ?_
  rintro ⟨i, v⟩ b0 wl ⟨hi, hMo, hk⟩ hback
  dsimp only
  simp only at hi hMo
  have hk' := hk.size
  refine X.seq ?_
  refine X.seq ?_
  refine X.region ?_
  refine X.opw X.wN rfl (X.move (v := .int .i64 _) rfl) ?_
  refine X.opw X.wN rfl (X.move rfl) ?_
  refine X.opw X.wN rfl (X.nilCk rfl) ?_
  refine X.opw X.wN rfl (X.fldB (j := 2) Tryz.underlying83 rfl rfl Tryz.sizeOf80 rfl) ?_
  refine X.opw X.wN rfl (X.load1B Tryz.isAgg80 (hB.keep hk) rfl rfl) ?_
  refine X.opw X.wN rfl (X.lenSl Tryz.underlying80 rfl) ?_
  refine X.opP X.wN rfl rfl (X.lss rfl rfl) (fun h11 => ?_) (fun h11 => ?_)
  · obtain ⟨e, he⟩ := rget i (l := t.dir) rfl (by omega)
    have hdr := rtake he
    refine X.opsEnd ?_
    refine X.condT rfl ?_
    refine X.skip ?_
    refine X.seq ?_
    refine X.block ?_
    refine X.region ?_
    refine X.opw X.wN rfl (X.move rfl) ?_
    refine X.opw X.wN rfl (X.move rfl) ?_
    refine X.opw X.wN rfl (X.nilCk rfl) ?_
    refine X.opw X.wN rfl (X.fldB (j := 2) Tryz.underlying83 rfl rfl Tryz.sizeOf80 rfl) ?_
    refine X.opw X.wN rfl (X.load1B Tryz.isAgg80 (hB.keep hk) rfl rfl) ?_
    refine X.opw X.wN rfl (X.move (v := .int .i64 _) rfl) ?_
    refine X.opw X.wN rfl (X.idxS (hsD.keep hk) Tryz.underlying80 Tryz.sizeOf121 rfl rfl ⟨by omega, by omega⟩) ?_
    refine X.opw X.wN rfl (X.fldA Tryz.underlying121 rfl rfl Tryz.sizeOf9) ?_
    refine X.opw X.wN rfl (X.loadSf Tryz.isAgg9 (hsD.keep hk) he rfl (fun _ h => by rw [h.1]; rfl)) ?_
    refine X.opE X.wN rfl (X.litKF KS_flat (K := KS) (xs := [Operand.tmp 22]) (vs := [.string e.1]) (ys := [e.1]) Tryz.underlying72 Tryz.sizeOf9 Tryz.zeroValue9 rfl rfl rfl rfl rfl (rrepsS _ (by have := hnz e (List.mem_of_getElem? he); omega))) ?_
    rintro _ w1 ⟨rfl, hs1, hB1, hk1, hz1⟩
    refine X.opE X.wN rfl (X.appE (K := KS) (S := fun k => w.heap.size ≤ k) KS_flat Tryz.underlying72 ERs rfl rfl (hMo.keep hk1) hs1 (by (try simp only [List.length_map, List.length_append, List.length_cons, List.length_nil, List.length_take, List.length_drop, List.length_map, List.length_range]); omega) (by intros; (try simp only [] at *); omega)) ?_
    rintro v2 w2 ⟨hM2, hx2⟩
    have hx2' := hx2.size
    refine X.opw X.wN rfl (X.assign rfl) ?_
    refine X.opsEnd ?_
    refine X.inBlock ?_
    refine X.region ?_
    refine X.opw X.wN rfl (X.move (v := .int .i64 _) rfl) ?_
    refine X.opw X.wN rfl (X.add rfl rfl (X.w_i64 (by omega))) ?_
    refine X.opw X.wN rfl (X.assign (v := .int .i64 _) rfl) ?_
    refine X.opsEnd ?_
    refine hback (i + 1, _) _ _ ⟨rfl, rfl, rfl, trivial⟩ ⟨by dsimp only; omega, by dsimp only; rw [hdr, List.map_append]; exact hM2, ((hk.trans hk1).step hx2 (by intros; (try simp only [] at *); omega))⟩ (by dsimp only; omega)
  · refine X.opsEnd ?_
    refine X.condF rfl ?_
    refine X.exit rfl ?_
    refine X.seq ?_
    refine X.region ?_
    refine X.opw X.wN rfl (X.move rfl) ?_
    refine X.opw X.wN rfl (X.assign rfl) ?_
    refine X.opsEnd ?_
    refine X.ret1 Tryz.func35 Tryz.results35 rfl ?_
    rw [List.take_of_length_le (by omega)] at hMo
    exact ⟨hMo, hk⟩
end Go.Proofs.YtcdebnppbnmmgaaGreat

namespace Go.Proofs.YtcdebnppbnmmgaaGreat
open Go Go.Proofs.YtcdebnppbnmmgaaGreat.X
set_option linter.unusedVariables false
set_option linter.unusedSimpArgs false
theorem rfat_len {t : RS} (hok : t.Ok) (k : Int) : (rfat t k).1.length ≤ 1048576 ∧ (rfat t k).2.1.length ≤ 1048576 := by
  rw [rfat, List.getD_eq_getElem?_getD]
  cases h : t.fs[k.toNat]? with
  | none => exact ⟨Nat.zero_le _, Nat.zero_le _⟩
  | some f => have := hok.fs f (List.mem_of_getElem? h); exact ⟨this.1, this.2.1⟩
theorem rcost_le {t : RS} (hok : t.Ok) (l : DIR) : rcost t l ≤ l.length * 16384 := by
  induction l with
  | nil => exact Nat.le_refl _
  | cons e l ih =>
    have h1 := (rfat_len hok e.2).1
    have h2 : rsec (rfat t e.2).1.length ≤ 16384 := by rw [rsec]; omega
    rw [rcost, List.map_cons, List.sum_cons, List.length_cons]
    rw [rcost] at ih
    omega
theorem rcost_snoc (t : RS) (l : DIR) (e : ByteArray × Int) : rcost t (l ++ [e]) = rcost t l + rsec (rfat t e.2).1.length := by
  rw [rcost, List.map_append, List.sum_append]; simp [rcost]
set_option maxHeartbeats 4000000 in
set_option maxRecDepth 100000 in
theorem RUsed_c {col : Nat → Nat} {x : Nat} {vF vD vX vC : Value} {pt : List Nat} {t : RS} (w : World) (h : RkB col w x vF vD vX vC pt t) (hok : t.Ok) : Ret Tryz.prog 42 #[ptrV x] w fun r w' => r = .int .i64 (t.used : Int) ∧ Keep w w' := by
  obtain ⟨AD, cD, e, hcD, hsD⟩ := h.D.slF KEn_flat 0 (fun _ _ => Nat.zero_le _)
  subst e
  obtain ⟨AC, cC, e, hcC, hsC⟩ := h.C.slF KCh_flat 0 (fun _ _ => Nat.zero_le _)
  subst e
  obtain ⟨AF, cF, e, hcF, hsF⟩ := h.F.slF KRp_flat 0 (fun _ _ => Nat.zero_le _)
  subst e
  have hB := h.B
  have hxl := h.B.lt
  have hlt := h.lt
  have hcx := h.cx
  have hok1 := hok.few
  have hok2 := hok.many
  have hok3 := hok.left
  have hplx := h.pl
  refine X.enter Tryz.func42 rfl Tryz.ntmps42 rfl ?_
  refine X.seq ?_
  refine X.region ?_
  refine X.opw X.wN rfl (X.assign rfl) ?_
  refine X.opsEnd ?_
  refine X.seq ?_
  refine X.region ?_
  refine X.opw X.wN rfl (X.assign rfl) ?_
  refine X.opsEnd ?_
  refine X.seq ?_
  refine X.seq ?_
  refine X.region ?_
  refine X.opw X.wN rfl (X.assign rfl) ?_
  refine X.opsEnd ?_
  refine X.block ?_
  refine X.loopL (σ := Nat) (fun s => [(0, ptrV x), (3, .int .i64 (rcost t (t.dir.take s) : Int)), (4, .int .i64 (s : Int))]) (fun s w' => s ≤ t.dir.length ∧ Keep w w') (fun s => t.dir.length - s) 0 ⟨rfl, rfl, rfl, trivial⟩ ⟨Nat.zero_le _, (Keep.refl _)⟩ ?_
  rintro i b0 wl ⟨hi, hk⟩ hback
  have hk' := hk.size
  have hcl := rcost_le hok (t.dir.take i)
  rw [List.length_take] at hcl
  refine X.seq ?_
  refine X.seq ?_
  refine X.region ?_
  refine X.opw X.wN rfl (X.move (v := .int .i64 _) rfl) ?_
  refine X.opw X.wN rfl (X.move rfl) ?_
  refine X.opw X.wN rfl (X.nilCk rfl) ?_
  refine X.opw X.wN rfl (X.fldB (j := 2) Tryz.underlying83 rfl rfl Tryz.sizeOf80 rfl) ?_
  refine X.opw X.wN rfl (X.load1B Tryz.isAgg80 (hB.keep hk) rfl rfl) ?_
  refine X.opw X.wN rfl (X.lenSl Tryz.underlying80 rfl) ?_
  refine X.opP X.wN rfl rfl (X.lss rfl rfl) (fun h11 => ?_) (fun h11 => ?_)
  · obtain ⟨en, hen⟩ := rget i (l := t.dir) rfl (by omega)
    have hed := hok.dir en (List.mem_of_getElem? hen)
    have hdr := rtake hen
    obtain ⟨p, f, v1, v2, v3, hpp, hff, hfl⟩ := h.at_ hok hed
    have hfB := hfl.B
    have hfc := hfl.c
    have hfpl := hfB.lt
    have hfok := hok.fs f (List.mem_of_getElem? hff)
    have hfat := rfat_at hff
    obtain ⟨Af1, cf1, e, hcf1, hf1⟩ := hfl.M1.slF KB_flat 0 (fun _ _ => Nat.zero_le _)
    subst e
    obtain ⟨Af2, cf2, e, hcf2, hf2⟩ := hfl.M2.slF KB_flat 0 (fun _ _ => Nat.zero_le _)
    subst e
    obtain ⟨Af3, cf3, e, hcf3, hf3⟩ := hfl.M3.slF KI_flat 0 (fun _ _ => Nat.zero_le _)
    subst e
    have hstep := rcost_snoc t (t.dir.take i) en
    rw [← hdr, hfat, rsec] at hstep
    refine X.opsEnd ?_
    refine X.condT rfl ?_
    refine X.skip ?_
    refine X.seq ?_
    refine X.block ?_
    refine X.regionD (fun _ => False) 21 (by kernel_rfl) (by kernel_rfl) (fun w1 hk1 hz1 => ?_)
    refine X.dTake 0 rfl (by kernel_rfl) (by kernel_rfl) (by kernel_rfl) (X.dwN rfl) (fun w' hk' => X.move (v := .int .i64 _) rfl) ?_
    refine X.dTake 1 rfl (by kernel_rfl) (by kernel_rfl) (by kernel_rfl) (X.dwN rfl) (fun w' hk' => X.move rfl) ?_
    refine X.dTake 2 rfl (by kernel_rfl) (by kernel_rfl) (by kernel_rfl) (X.dwN rfl) (fun w' hk' => X.nilCk rfl) ?_
    refine X.dTake 3 rfl (by kernel_rfl) (by kernel_rfl) (by kernel_rfl) (X.dwN rfl) (fun w' hk' => X.fldB (j := 1) Tryz.underlying83 rfl rfl Tryz.sizeOf79 rfl) ?_
    refine X.dTake 4 rfl (by kernel_rfl) (by kernel_rfl) (by kernel_rfl) (X.dwN rfl) (fun w' hk' => X.load1B Tryz.isAgg79 (hB.keep ((hk.trans hk1).trans hk')) rfl rfl) ?_
    refine X.dTake 5 rfl (by kernel_rfl) (by kernel_rfl) (by kernel_rfl) (X.dwN rfl) (fun w' hk' => X.move rfl) ?_
    refine X.dTake 6 rfl (by kernel_rfl) (by kernel_rfl) (by kernel_rfl) (X.dwN rfl) (fun w' hk' => X.nilCk rfl) ?_
    refine X.dTake 7 rfl (by kernel_rfl) (by kernel_rfl) (by kernel_rfl) (X.dwN rfl) (fun w' hk' => X.fldB (j := 2) Tryz.underlying83 rfl rfl Tryz.sizeOf80 rfl) ?_
    refine X.dTake 8 rfl (by kernel_rfl) (by kernel_rfl) (by kernel_rfl) (X.dwN rfl) (fun w' hk' => X.load1B Tryz.isAgg80 (hB.keep ((hk.trans hk1).trans hk')) rfl rfl) ?_
    refine X.dTake 9 rfl (by kernel_rfl) (by kernel_rfl) (by kernel_rfl) (X.dwN rfl) (fun w' hk' => X.move (v := .int .i64 _) rfl) ?_
    refine X.dTake 10 rfl (by kernel_rfl) (by kernel_rfl) (by kernel_rfl) (X.dwN rfl) (fun w' hk' => X.idxS (hsD.keep ((hk.trans hk1).trans hk')) Tryz.underlying80 Tryz.sizeOf121 rfl rfl ⟨by omega, by omega⟩) ?_
    refine X.dTake 11 rfl (by kernel_rfl) (by kernel_rfl) (by kernel_rfl) (X.dwN rfl) (fun w' hk' => X.fldA Tryz.underlying121 rfl rfl Tryz.sizeOf3) ?_
    refine X.dTake 12 rfl (by kernel_rfl) (by kernel_rfl) (by kernel_rfl) (X.dwN rfl) (fun w' hk' => X.loadSf Tryz.isAgg3 (hsD.keep ((hk.trans hk1).trans hk')) hen rfl (fun _ h => by rw [h.1]; rfl)) ?_
    refine X.dTake 13 rfl (by kernel_rfl) (by kernel_rfl) (by kernel_rfl) (X.dwN rfl) (fun w' hk' => X.idxS (hsF.keep ((hk.trans hk1).trans hk')) Tryz.underlying79 Tryz.sizeOf108 rfl rfl ⟨by omega, by omega⟩) ?_
    refine X.dTake 14 rfl (by kernel_rfl) (by kernel_rfl) (by kernel_rfl) (X.dwN rfl) (fun w' hk' => X.loadS Tryz.isAgg108 (hsF.keep ((hk.trans hk1).trans hk')) hpp rfl (fun _ h => by rw [h.1]; rfl)) ?_
    refine X.dTake 15 rfl (by kernel_rfl) (by kernel_rfl) (by kernel_rfl) (X.dwN rfl) (fun w' hk' => X.nilCk rfl) ?_
    refine X.dTake 16 rfl (by kernel_rfl) (by kernel_rfl) (by kernel_rfl) (X.dwN rfl) (fun w' hk' => X.fldB (j := 0) Tryz.underlying110 rfl rfl Tryz.sizeOf31 rfl) ?_
    refine X.dTake 17 rfl (by kernel_rfl) (by kernel_rfl) (by kernel_rfl) (X.dwN rfl) (fun w' hk' => X.load1B Tryz.isAgg31 (hfB.keep ((hk.trans hk1).trans hk')) rfl rfl) ?_
    refine X.dTake 18 rfl (by kernel_rfl) (by kernel_rfl) (by kernel_rfl) (X.dwN rfl) (fun w' hk' => X.lenSl Tryz.underlying31 rfl) ?_
    refine X.dE (i := 19) (by kernel_rfl) rfl (X.dwN rfl) (X.callE (Rsectors_c _ _ (by omega)) Tryz.call59 rfl rfl) (by rintro _ w2 ⟨rfl, hk2⟩ _; exact hk2.mono (fun _ _ h => h.elim)) ?_
    rintro _ w2 ⟨rfl, hk2⟩
    have hk2' := hk2.size
    refine X.dTake 20 rfl (by kernel_rfl) (by kernel_rfl) (by kernel_rfl) (X.dwN rfl) (fun w' hk' => X.add (c := ((rcost t (t.dir.take (i + 1)) : Nat) : Int)) rfl rfl (by rw [hstep, Int.natCast_add]; exact X.w_i64 (by omega))) ?_
    refine X.dStep (i := 21) (by kernel_rfl) rfl (X.dwN rfl) (X.assign (v := .int .i64 _) rfl) (fun h => absurd h (by decide)) ?_
    refine X.dEnd (by kernel_rfl) ?_
    refine X.inBlock ?_
    refine X.region ?_
    refine X.opw X.wN rfl (X.move (v := .int .i64 _) rfl) ?_
    refine X.opw X.wN rfl (X.add rfl rfl (X.w_i64 (by omega))) ?_
    refine X.opw X.wN rfl (X.assign (v := .int .i64 _) rfl) ?_
    refine X.opsEnd ?_
    refine hback (i + 1) _ _ ⟨rfl, rfl, rfl, trivial⟩ ⟨by omega, ((hk.trans hk1).trans hk2)⟩ (by omega)
  · refine X.opsEnd ?_
    refine X.condF rfl ?_
    refine X.exit rfl ?_
    refine X.seq ?_
    refine X.region ?_
    refine X.opw X.wN rfl (X.move (v := .int .i64 _) rfl) ?_
    refine X.opw X.wN rfl (X.assign (v := .int .i64 _) rfl) ?_
    refine X.opsEnd ?_
    refine X.ret1 (v := (.int .i64 _)) Tryz.func42 Tryz.results42 rfl ?_
    exact ⟨by rw [List.take_of_length_le (by omega)]; rfl, hk⟩
def RS.sync (nm : ByteArray) (t : RS) : Int × RS := if t.down = true then (54, t) else if rfind nm t.dir < 0 then (52, t) else (0, ({ t with fs := t.fs.set (rfind nm t.dir).toNat ((rfat t (rfind nm t.dir)).1, (rfat t (rfind nm t.dir)).1, []) } : RS).did)
set_option maxHeartbeats 4000000 in
set_option maxRecDepth 100000 in
theorem RSync_c {col : Nat → Nat} {x : Nat} {vF vD vX vC : Value} {pt : List Nat} {t : RS} (nm : ByteArray) (w : World) (h : RkB col w x vF vD vX vC pt t) (hok : t.Ok) : Ret Tryz.prog 20 #[ptrV x, .string nm] w fun r w' => r = .int .i64 (t.sync nm).1 ∧ ∃ col', RkR col' w' x (t.sync nm).2 ∧ Stp col w col' w' := by
  obtain ⟨AD, cD, e, hcD, hsD⟩ := h.D.slF KEn_flat 0 (fun _ _ => Nat.zero_le _)
  subst e
  obtain ⟨AC, cC, e, hcC, hsC⟩ := h.C.slF KCh_flat 0 (fun _ _ => Nat.zero_le _)
  subst e
  obtain ⟨AF, cF, e, hcF, hsF⟩ := h.F.slF KRp_flat 0 (fun _ _ => Nat.zero_le _)
  subst e
  have hB := h.B
  have hxl := h.B.lt
  have hlt := h.lt
  have hcx := h.cx
  have hok1 := hok.few
  have hok2 := hok.many
  have hok3 := hok.left
  have hplx := h.pl
  refine X.enter Tryz.func20 rfl Tryz.ntmps20 rfl ?_
  refine X.seq ?_
  refine X.region ?_
  refine X.opw X.wN rfl (X.assign rfl) ?_
  refine X.opsEnd ?_
  refine X.seq ?_
  refine X.seq ?_
  refine X.region ?_
  refine X.opw X.wN rfl (X.move rfl) ?_
  refine X.opE X.wN rfl (X.callE (RDown_c _ (h.keep (Keep.refl _))) Tryz.call37 rfl rfl) ?_
  rintro _ w1 ⟨rfl, hk1⟩
  have hk1' := hk1.size
  refine X.opsEnd ?_
  refine X.condB rfl (fun hd => ?_) (fun hd => ?_)
  · refine X.seq ?_
    refine X.region ?_
    refine X.opw X.wN rfl (X.assign rfl) ?_
    refine X.opsEnd ?_
    refine X.ret1 (v := (.int .i64 _)) Tryz.func20 Tryz.results20 rfl ?_
    have e : t.sync nm = (54, t) := by simp only [RS.sync, if_pos hd]
    rw [e]
    exact ⟨rfl, col, (h.keep hk1).r, Stp.keep hk1⟩
  · refine X.skip ?_
    refine X.seq ?_
    refine X.region ?_
    refine X.opw X.wN rfl (X.move rfl) ?_
    refine X.opw X.wN rfl (X.nilCk rfl) ?_
    refine X.opw X.wN rfl (X.fldB (j := 2) Tryz.underlying83 rfl rfl Tryz.sizeOf80 rfl) ?_
    refine X.opw X.wN rfl (X.load1B Tryz.isAgg80 (hB.keep hk1) rfl rfl) ?_
    refine X.opw X.wN rfl (X.move (v := .string _) rfl) ?_
    refine X.opE X.wN rfl (X.callE (Find_c nm _ (hsD.keep hk1) (by omega)) Tryz.call56 rfl rfl) ?_
    rintro _ w2 ⟨rfl, hk2⟩
    have hk2' := hk2.size
    refine X.opw X.wN rfl (X.assign (v := .int .i64 _) rfl) ?_
    refine X.opsEnd ?_
    refine X.seq ?_
    refine X.seq ?_
    refine X.region ?_
    refine X.opw X.wN rfl (X.move (v := .int .i64 _) rfl) ?_
    refine X.opP X.wN rfl rfl (X.lss rfl rfl) (fun h16 => ?_) (fun h16 => ?_)
    · refine X.opsEnd ?_
      refine X.condT rfl ?_
      refine X.seq ?_
      refine X.region ?_
      refine X.opw X.wN rfl (X.assign rfl) ?_
      refine X.opsEnd ?_
      refine X.ret1 (v := (.int .i64 _)) Tryz.func20 Tryz.results20 rfl ?_
      have e : t.sync nm = (52, t) := by simp only [RS.sync, if_neg (show ¬ t.down = true by rw [hd]; decide), if_pos h16]
      rw [e]
      exact ⟨rfl, col, (h.keep (hk1.trans hk2)).r, Stp.keep (hk1.trans hk2)⟩
    · have hk0 : 0 ≤ rfind nm t.dir := by omega
      have hk1' := hok.dir _ (rfind_at hk0)
      obtain ⟨p, f, v1, v2, v3, hpp, hff, hfl⟩ := h.at_ hok ⟨hk0, hk1'.2⟩
      have hfB := hfl.B
      have hfc := hfl.c
      have hfpl := hfB.lt
      have hfok := hok.fs f (List.mem_of_getElem? hff)
      have hfat := rfat_at hff
      obtain ⟨Af1, cf1, e, hcf1, hf1⟩ := hfl.M1.slF KB_flat 0 (fun _ _ => Nat.zero_le _)
      subst e
      obtain ⟨Af2, cf2, e, hcf2, hf2⟩ := hfl.M2.slF KB_flat 0 (fun _ _ => Nat.zero_le _)
      subst e
      obtain ⟨Af3, cf3, e, hcf3, hf3⟩ := hfl.M3.slF KI_flat 0 (fun _ _ => Nat.zero_le _)
      subst e
      refine X.opsEnd ?_
      refine X.condF rfl ?_
      refine X.skip ?_
      refine X.seq ?_
      refine X.region ?_
      refine X.opw X.wN rfl (X.move rfl) ?_
      refine X.opw X.wN rfl (X.nilCk rfl) ?_
      refine X.opw X.wN rfl (X.fldB (j := 1) Tryz.underlying83 rfl rfl Tryz.sizeOf79 rfl) ?_
      refine X.opw X.wN rfl (X.load1B Tryz.isAgg79 (hB.keep (hk1.trans hk2)) rfl rfl) ?_
      refine X.opw X.wN rfl (X.move (v := .int .i64 _) rfl) ?_
      refine X.opw X.wN rfl (X.idxS (hsF.keep (hk1.trans hk2)) Tryz.underlying79 Tryz.sizeOf108 rfl rfl ⟨by omega, by omega⟩) ?_
      refine X.opw X.wN rfl (X.loadS Tryz.isAgg108 (hsF.keep (hk1.trans hk2)) hpp rfl (fun _ h => by rw [h.1]; rfl)) ?_
      refine X.opw X.wN rfl (X.assign rfl) ?_
      refine X.opsEnd ?_
      refine X.seq ?_
      refine X.region ?_
      refine X.opw X.wN rfl (X.move rfl) ?_
      refine X.opw X.wN rfl (X.move rfl) ?_
      refine X.opE X.wN rfl (X.lit0E (K := KB) (S := fun k => w.heap.size ≤ k) Tryz.underlying31 Tryz.sizeOf5 (by intros; (try simp only [] at *); omega)) ?_
      rintro v3 w3 ⟨hM3, hk3, hz3⟩
      refine X.opw X.wN rfl (X.move rfl) ?_
      refine X.opw X.wN rfl (X.nilCk rfl) ?_
      refine X.opw X.wN rfl (X.fldB (j := 0) Tryz.underlying110 rfl rfl Tryz.sizeOf31 rfl) ?_
      refine X.opw X.wN rfl (X.load1B Tryz.isAgg31 (hfB.keep ((hk1.trans hk2).trans hk3)) rfl rfl) ?_
      refine X.opE X.wN rfl (X.appE (K := KB) (S := fun k => w.heap.size ≤ k) KB_flat Tryz.underlying31 ERb rfl rfl hM3 (m0 KB_flat (((hfl.M1.keep hk1).keep hk2).keep hk3)) (by (try simp only [List.length_append, List.length_cons, List.length_nil, List.length_take, List.length_drop, List.length_map, List.length_range]); omega) (by intros; (try simp only [] at *); omega)) ?_
      rintro v4 w4 ⟨hM4, hx4⟩
      have hx4' := hx4.size
      refine X.opw X.wN rfl (X.nilCk rfl) ?_
      refine X.opw X.wN rfl (X.fldB (j := 1) Tryz.underlying110 rfl rfl Tryz.sizeOf31 rfl) ?_
      have q5 := hM4.slF KB_flat 0 (fun _ _ => Nat.zero_le _)
      obtain ⟨A5, c5, rfl, hc5, hs5⟩ := q5
      refine X.opE X.wN rfl (X.storeE Tryz.sizeOf31 ((hfB.keep ((hk1.trans hk2).trans hk3)).ext hx4 (by first | (intro q g1 g2 g3; first | (have g3 : q = _ := g3; omega) | (have g3 : _ ≤ q := g3; omega) | omega | (have g3 : _ ∨ _ := g3; rcases g3 with g3 | g3 <;> omega)) | (intro hh; first | (have hh : _ = _ := hh; omega) | (have hh : _ ≤ _ := hh; omega) | (have hh : _ ∨ _ := hh; rcases hh with hh | hh <;> first | omega | (have hq := hlt _ (fun e => absurd (hh.symm.trans e) (by decide)); omega))) | (intros; omega) | (intro q g1 g2; first | (have g2 : q = _ := g2; omega) | (have g2 : _ ≤ q := g2; omega)))) rfl rfl rfl (by obtain ⟨A', c', e, _⟩ := (hM4).slice; rw [e]; rfl)) ?_
      rintro _ w6 ⟨hB6, hx6, hz6⟩
      refine X.opw X.wN rfl (X.nilCk rfl) ?_
      refine X.opw X.wN rfl (X.fldB (j := 2) Tryz.underlying110 rfl rfl Tryz.sizeOf95 rfl) ?_
      refine X.opE X.wN rfl (X.storeE Tryz.sizeOf95 hB6 rfl rfl rfl rfl) ?_
      rintro _ w7 ⟨hB7, hx7, hz7⟩
      refine X.opsEnd ?_
      refine X.seq ?_
      refine X.region ?_
      refine X.opw X.wN rfl (X.move rfl) ?_
      have hx : Ext (fun q => col q = 4 + 3 * (rfind nm t.dir).toNat) w w7 := (Ext.andThen (Ext.andThen (Ext.andThen (Ext.andThen (Ext.andThen (Ext.andThen (Ext.refl (fun q => col q = 4 + 3 * (rfind nm t.dir).toNat) _) hk1 (by intro q h1 h2; first | exact (h2 : False).elim | exact h2 | (have h2 : q = _ := h2; subst h2; omega) | (have h2 : _ ≤ q := h2; omega) | (have h2 : _ ≤ q ∧ _ := h2; omega) | (rcases h2 with h2 | h2 | h2 <;> first | omega | (subst h2; omega)) | (rcases h2 with h2 | h2 <;> first | omega | (subst h2; omega)))) hk2 (by intro q h1 h2; first | exact (h2 : False).elim | exact h2 | (have h2 : q = _ := h2; subst h2; omega) | (have h2 : _ ≤ q := h2; omega) | (have h2 : _ ≤ q ∧ _ := h2; omega) | (rcases h2 with h2 | h2 | h2 <;> first | omega | (subst h2; omega)) | (rcases h2 with h2 | h2 <;> first | omega | (subst h2; omega)))) hk3 (by intro q h1 h2; first | exact (h2 : False).elim | exact h2 | (have h2 : q = _ := h2; subst h2; omega) | (have h2 : _ ≤ q := h2; omega) | (have h2 : _ ≤ q ∧ _ := h2; omega) | (rcases h2 with h2 | h2 | h2 <;> first | omega | (subst h2; omega)) | (rcases h2 with h2 | h2 <;> first | omega | (subst h2; omega)))) hx4 (by intro q h1 h2; first | exact (h2 : False).elim | exact h2 | (have h2 : q = _ := h2; subst h2; omega) | (have h2 : _ ≤ q := h2; omega) | (have h2 : _ ≤ q ∧ _ := h2; omega) | (rcases h2 with h2 | h2 | h2 <;> first | omega | (subst h2; omega)) | (rcases h2 with h2 | h2 <;> first | omega | (subst h2; omega)))) hx6 (by intro q h1 h2; first | exact (h2 : False).elim | exact h2 | (have h2 : q = _ := h2; subst h2; omega) | (have h2 : _ ≤ q := h2; omega) | (have h2 : _ ≤ q ∧ _ := h2; omega) | (rcases h2 with h2 | h2 | h2 <;> first | omega | (subst h2; omega)) | (rcases h2 with h2 | h2 <;> first | omega | (subst h2; omega)))) hx7 (by intro q h1 h2; first | exact (h2 : False).elim | exact h2 | (have h2 : q = _ := h2; subst h2; omega) | (have h2 : _ ≤ q := h2; omega) | (have h2 : _ ≤ q ∧ _ := h2; omega) | (rcases h2 with h2 | h2 | h2 <;> first | omega | (subst h2; omega)) | (rcases h2 with h2 | h2 <;> first | omega | (subst h2; omega))))
      have hxs := hx.size
      obtain ⟨col', hcol⟩ : ∃ col', col' = rec' col w.heap.size w7.heap.size (6 + 3 * (rfind nm t.dir).toNat) := ⟨_, rfl⟩
      have hold : ∀ q, q < w.heap.size → col' q = col q := fun q hq => by rw [hcol]; exact rec_old hq
      have hnew : ∀ q, w.heap.size ≤ q → q < w7.heap.size → col' q = 6 + 3 * (rfind nm t.dir).toNat := fun q h1 h2 => by rw [hcol]; exact rec_new h1 h2
      have hltc : ∀ q, col' q ≠ 0 → q < w7.heap.size := fun q hq => by rw [hcol] at hq; exact rec_lt hlt hxs hq
      have P := h.part (col' := col') (fun v => v = 4 + 3 * (rfind nm t.dir).toNat) hx hold (fun q hq ht => ht)
      have hst : Stp col w col' w7 := ⟨hold, hx.mono (fun q _ t => by (try simp only [] at t); omega)⟩
      have hR1 : RkB col' w7 x (.slice AF pt.length cF) (.slice AD t.dir.length cD) vX (.slice AC t.chs.length cC) pt { t with fs := t.fs.set (rfind nm t.dir).toNat (f.1, f.1, []) } := ⟨P.B (by omega), P.F (by omega), P.D (by omega), P.X (by omega), P.C (by omega), P.cx, hltc, by rw [List.length_set]; exact h.pl, fun j q g h1 h2 => by
        by_cases hj : j = (rfind nm t.dir).toNat
        · subst hj
          rw [hpp] at h1
          have h2' : (t.fs.set (rfind nm t.dir).toNat (f.1, f.1, []))[(rfind nm t.dir).toNat]? = some g := h2
          rw [List.getElem?_set_self (List.getElem?_eq_some_iff.1 hff).1] at h2'
          cases h1; cases h2'
          exact ⟨_, _, _, hB7, (hold _ hfpl).trans hfc, colr hfl.M1 hx hold (fun q _ ht => by (try dsimp only at ht); omega), (((hM4.ext hx6 (by first | (intro q g1 g2 g3; first | (have g3 : q = _ := g3; omega) | (have g3 : _ ≤ q := g3; omega) | omega | (have g3 : _ ∨ _ := g3; rcases g3 with g3 | g3 <;> omega)) | (intro hh; first | (have hh : _ = _ := hh; omega) | (have hh : _ ≤ _ := hh; omega) | (have hh : _ ∨ _ := hh; rcases hh with hh | hh <;> first | omega | (have hq := hlt _ (fun e => absurd (hh.symm.trans e) (by decide)); omega))) | (intros; omega) | (intro q g1 g2; first | (have g2 : q = _ := g2; omega) | (have g2 : _ ≤ q := g2; omega))) (by first | (intro q g1 g2 g3; first | (have g3 : q = _ := g3; omega) | (have g3 : _ ≤ q := g3; omega) | omega | (have g3 : _ ∨ _ := g3; rcases g3 with g3 | g3 <;> omega)) | (intro hh; first | (have hh : _ = _ := hh; omega) | (have hh : _ ≤ _ := hh; omega) | (have hh : _ ∨ _ := hh; rcases hh with hh | hh <;> first | omega | (have hq := hlt _ (fun e => absurd (hh.symm.trans e) (by decide)); omega))) | (intros; omega) | (intro q g1 g2; first | (have g2 : q = _ := g2; omega) | (have g2 : _ ≤ q := g2; omega)))).ext hx7 (by first | (intro q g1 g2 g3; first | (have g3 : q = _ := g3; omega) | (have g3 : _ ≤ q := g3; omega) | omega | (have g3 : _ ∨ _ := g3; rcases g3 with g3 | g3 <;> omega)) | (intro hh; first | (have hh : _ = _ := hh; omega) | (have hh : _ ≤ _ := hh; omega) | (have hh : _ ∨ _ := hh; rcases hh with hh | hh <;> first | omega | (have hq := hlt _ (fun e => absurd (hh.symm.trans e) (by decide)); omega))) | (intros; omega) | (intro q g1 g2; first | (have g2 : q = _ := g2; omega) | (have g2 : _ ≤ q := g2; omega))) (by first | (intro q g1 g2 g3; first | (have g3 : q = _ := g3; omega) | (have g3 : _ ≤ q := g3; omega) | omega | (have g3 : _ ∨ _ := g3; rcases g3 with g3 | g3 <;> omega)) | (intro hh; first | (have hh : _ = _ := hh; omega) | (have hh : _ ≤ _ := hh; omega) | (have hh : _ ∨ _ := hh; rcases hh with hh | hh <;> first | omega | (have hq := hlt _ (fun e => absurd (hh.symm.trans e) (by decide)); omega))) | (intros; omega) | (intro q g1 g2; first | (have g2 : q = _ := g2; omega) | (have g2 : _ ≤ q := g2; omega))))).mono (fun q hq hS => hnew q hS hq), Mine.nil _ _ _ _ _ _⟩
        · have h2' : (t.fs.set (rfind nm t.dir).toNat (f.1, f.1, []))[j]? = some g := h2
          rw [List.getElem?_set_ne (fun e => hj e.symm)] at h2'
          exact P.fl j q g h1 h2' (by omega) (fun v a1 a2 => by omega)⟩
      refine X.opE X.wN rfl (X.callE (Rdid_c _ hR1 (by (try simp only [RS.note]); omega)) Tryz.call58 rfl rfl) ?_
      rintro _ w8 ⟨rfl, hR2, hx8⟩
      have hx8' := hx8.size
      refine X.opw X.wN rfl (X.assign (v := .int .i64 _) rfl) ?_
      refine X.opsEnd ?_
      refine X.ret1 (v := (.int .i64 _)) Tryz.func20 Tryz.results20 rfl ?_
      have hx : Ext (fun q => col q ≠ 0) w w8 := (Ext.andThen (Ext.andThen (Ext.andThen (Ext.andThen (Ext.andThen (Ext.andThen (Ext.andThen (Ext.refl (fun q => col q ≠ 0) _) hk1 (by intro q h1 h2; first | exact (h2 : False).elim | exact h2 | (have h2 : q = _ := h2; subst h2; omega) | (have h2 : _ ≤ q := h2; omega) | (have h2 : _ ≤ q ∧ _ := h2; omega) | (rcases h2 with h2 | h2 <;> first | omega | (subst h2; omega)))) hk2 (by intro q h1 h2; first | exact (h2 : False).elim | exact h2 | (have h2 : q = _ := h2; subst h2; omega) | (have h2 : _ ≤ q := h2; omega) | (have h2 : _ ≤ q ∧ _ := h2; omega) | (rcases h2 with h2 | h2 <;> first | omega | (subst h2; omega)))) hk3 (by intro q h1 h2; first | exact (h2 : False).elim | exact h2 | (have h2 : q = _ := h2; subst h2; omega) | (have h2 : _ ≤ q := h2; omega) | (have h2 : _ ≤ q ∧ _ := h2; omega) | (rcases h2 with h2 | h2 <;> first | omega | (subst h2; omega)))) hx4 (by intro q h1 h2; first | exact (h2 : False).elim | exact h2 | (have h2 : q = _ := h2; subst h2; omega) | (have h2 : _ ≤ q := h2; omega) | (have h2 : _ ≤ q ∧ _ := h2; omega) | (rcases h2 with h2 | h2 <;> first | omega | (subst h2; omega)))) hx6 (by intro q h1 h2; first | exact (h2 : False).elim | exact h2 | (have h2 : q = _ := h2; subst h2; omega) | (have h2 : _ ≤ q := h2; omega) | (have h2 : _ ≤ q ∧ _ := h2; omega) | (rcases h2 with h2 | h2 <;> first | omega | (subst h2; omega)))) hx7 (by intro q h1 h2; first | exact (h2 : False).elim | exact h2 | (have h2 : q = _ := h2; subst h2; omega) | (have h2 : _ ≤ q := h2; omega) | (have h2 : _ ≤ q ∧ _ := h2; omega) | (rcases h2 with h2 | h2 <;> first | omega | (subst h2; omega)))) hx8 (by intro q h1 h2; first | exact (h2 : False).elim | exact h2 | (have h2 : q = _ := h2; subst h2; omega) | (have h2 : _ ≤ q := h2; omega) | (have h2 : _ ≤ q ∧ _ := h2; omega) | (rcases h2 with h2 | h2 <;> first | omega | (subst h2; omega))))
      have e : t.sync nm = (0, ({ t with fs := t.fs.set (rfind nm t.dir).toNat (f.1, f.1, []) } : RS).did) := by simp only [RS.sync, if_neg (show ¬ t.down = true by rw [hd]; decide), if_neg h16, hfat]
      rw [e]
      exact ⟨rfl, col', hR2.r, ⟨fun q hq => hold q hq, hx⟩⟩
end Go.Proofs.YtcdebnppbnmmgaaGreat

namespace Go.Proofs.YtcdebnppbnmmgaaGreat
open Go Go.Proofs.YtcdebnppbnmmgaaGreat.X
set_option linter.unusedVariables false
set_option linter.unusedSimpArgs false
def rpad (b : List UInt8) (a n : Nat) : List UInt8 := b ++ List.replicate (max b.length (a + n) - b.length) 0
def rput (b : List UInt8) (a : Nat) (y : List UInt8) : List UInt8 := b.take a ++ y ++ b.drop (a + y.length)
def rwrt (b : List UInt8) (a : Nat) (y : List UInt8) : List UInt8 := rput (rpad b a y.length) a y
def rmark : Nat → Nat → List Int → List Int
  | _, 0, l => l
  | s, n + 1, l => rmark (s + 1) n (lput (s : Int) l)
def rtouch (a n : Nat) : Nat := if n = 0 then 0 else rsec (a + n) - a / 64
def RS.write (nm : ByteArray) (a : Int) (y : List UInt8) (t : RS) : Int × RS := if t.down = true then (54, t) else if rfind nm t.dir < 0 then (52, t)
  else if a < 0 ∨ ((rfat t (rfind nm t.dir)).1.length : Int) < a then (5, t) else if 1048576 - a < (y.length : Int) then (2, t)
  else if t.rm < (t.used : Int) - (rsec (rfat t (rfind nm t.dir)).1.length : Int) + (rsec (max (rfat t (rfind nm t.dir)).1.length (a.toNat + y.length)) : Int) then (53, t)
  else (0, ({ t with fs := t.fs.set (rfind nm t.dir).toNat (rwrt (rfat t (rfind nm t.dir)).1 a.toNat y, (rfat t (rfind nm t.dir)).2.1, rmark (a.toNat / 64) (rtouch a.toNat y.length) (rfat t (rfind nm t.dir)).2.2) } : RS).did)
theorem lput_len (k : Int) (l : List Int) : (lput k l).length ≤ l.length + 1 := by
  rw [lput]
  split
  · omega
  · have := congrArg List.length (List.takeWhile_append_dropWhile (p := fun x : Int => decide (x < k)) (l := l))
    rw [List.length_append] at this
    simp only [List.length_append, List.length_singleton]; omega
theorem rmark_len : ∀ (n s : Nat) (l : List Int), (rmark s n l).length ≤ l.length + n
  | 0, _, _ => Nat.le_refl _
  | n + 1, s, l => by rw [rmark]; have := rmark_len n (s + 1) (lput (s : Int) l); have := lput_len (s : Int) l; omega
theorem rmark_snoc : ∀ (n s : Nat) (l : List Int), rmark s (n + 1) l = lput ((s + n : Nat) : Int) (rmark s n l)
  | 0, _, _ => rfl
  | n + 1, s, l => by rw [rmark, rmark_snoc n (s + 1), rmark, show s + 1 + n = s + (n + 1) by omega]
theorem rput_len {b : List UInt8} {a : Nat} {y : List UInt8} (h : a + y.length ≤ b.length) : (rput b a y).length = b.length := by
  simp only [rput, List.length_append, List.length_take, List.length_drop]; omega
theorem rput_step {b : List UInt8} {a i : Nat} {y : List UInt8} {z : UInt8} (hz : y[i]? = some z) (h : a + y.length ≤ b.length) : (rput b a (y.take i)).set (a + i) z = rput b a (y.take (i + 1)) := by
  have hi := (List.getElem?_eq_some_iff.1 hz).1
  have h1 : (y.take i).length = i := by rw [List.length_take]; omega
  have h2 : (b.take a).length = a := by rw [List.length_take]; omega
  rw [rput, rput, rtake hz, List.length_append, h1, List.length_singleton, List.append_assoc, List.append_assoc, List.set_append_right _ _ (by omega), h2, List.set_append_right _ _ (by omega), h1, show a + i - a - i = 0 by omega]
  obtain ⟨u, hu⟩ : ∃ u, b[a + i]? = some u := ⟨b[a + i]'(by omega), List.getElem?_eq_getElem _⟩
  rw [rdrop hu, List.set_cons_zero]; simp [Nat.add_assoc]
theorem putM {e : TypeId} {S T : Nat → Prop} {g : Nat} {w' : World} {A : Option Addr} {n c : Nat} {l : List Int} {k : Int} {vP : Value} (hP : vP = .slice A n c ∧ lput k l = l ∨ Mine KI e (fun q => g ≤ q) 0 0 w' vP (lput k l)) (hM : Mine KI e S 0 0 w' (.slice A n c) l) (hS : ∀ q, S q → T q) (hT : ∀ q, g ≤ q → q < w'.heap.size → T q) : Mine KI e T 0 0 w' vP (lput k l) := by
  rcases hP with ⟨e1, e2⟩ | hP
  · rw [e1, e2]; exact hM.mono fun q _ h => hS q h
  · exact hP.mono fun q hq h => hT q h hq
end Go.Proofs.YtcdebnppbnmmgaaGreat

namespace Go.Proofs.YtcdebnppbnmmgaaGreat
open Go Go.Proofs.YtcdebnppbnmmgaaGreat.X
set_option linter.unusedVariables false
set_option linter.unusedSimpArgs false
set_option maxHeartbeats 4000000 in
set_option maxRecDepth 100000 in
theorem RWrite_c {col : Nat → Nat} {x : Nat} {vF vD vX vC : Value} {pt : List Nat} {t : RS} {lo hi m cy : Nat} {Ay : Option Addr} {y : List UInt8} (nm : ByteArray) (a : Int) (w : World) (h : RkB col w x vF vD vX vC pt t) (hok : t.Ok) (ha : -9223372036854775808 ≤ a ∧ a ≤ 9223372036854775807) (hy : Sl KB lo hi w Ay m y) (hy0 : ∀ q, lo ≤ q → q < hi → col q = 0 ∧ q < w.heap.size) (hym : m ≤ 1000000000) : Ret Tryz.prog 18 #[ptrV x, .string nm, .int .i64 a, .slice Ay m cy] w fun r w' => r = .int .i64 (t.write nm a y).1 ∧ ∃ col', RkR col' w' x (t.write nm a y).2 ∧ Stp col w col' w' := by
  obtain ⟨AD, cD, e, hcD, hsD⟩ := h.D.slF KEn_flat 0 (fun _ _ => Nat.zero_le _)
  subst e
  obtain ⟨AC, cC, e, hcC, hsC⟩ := h.C.slF KCh_flat 0 (fun _ _ => Nat.zero_le _)
  subst e
  obtain ⟨AF, cF, e, hcF, hsF⟩ := h.F.slF KRp_flat 0 (fun _ _ => Nat.zero_le _)
  subst e
  have hB := h.B
  have hxl := h.B.lt
  have hlt := h.lt
  have hcx := h.cx
  have hok1 := hok.few
  have hok2 := hok.many
  have hok3 := hok.left
  have hplx := h.pl
  have hyl := hy.len
  have hus : t.used ≤ 4194304 := by have := rcost_le hok t.dir; rw [RS.used]; omega
  refine X.enter Tryz.func18 rfl Tryz.ntmps18 rfl ?_
  refine X.seq ?_
  refine X.region ?_
  refine X.opw X.wN rfl (X.assign rfl) ?_
  refine X.opsEnd ?_
  refine X.seq ?_
  refine X.seq ?_
  refine X.region ?_
  refine X.opw X.wN rfl (X.move rfl) ?_
  refine X.opE X.wN rfl (X.callE (RDown_c _ (h.keep (Keep.refl _))) Tryz.call37 rfl rfl) ?_
  rintro _ w1 ⟨rfl, hk1⟩
  have hk1' := hk1.size
  refine X.opsEnd ?_
  refine X.condB rfl (fun hd => ?_) (fun hd => ?_)
  · refine X.seq ?_
    refine X.region ?_
    refine X.opw X.wN rfl (X.assign rfl) ?_
    refine X.opsEnd ?_
    refine X.ret1 (v := (.int .i64 _)) Tryz.func18 Tryz.results18 rfl ?_
    have e : t.write nm a y = (54, t) := by simp only [RS.write, if_pos hd]
    rw [e]
    exact ⟨rfl, col, (h.keep hk1).r, Stp.keep hk1⟩
  · refine X.skip ?_
    refine X.seq ?_
    refine X.region ?_
    refine X.opw X.wN rfl (X.move rfl) ?_
    refine X.opw X.wN rfl (X.nilCk rfl) ?_
    refine X.opw X.wN rfl (X.fldB (j := 2) Tryz.underlying83 rfl rfl Tryz.sizeOf80 rfl) ?_
    refine X.opw X.wN rfl (X.load1B Tryz.isAgg80 (hB.keep hk1) rfl rfl) ?_
    refine X.opw X.wN rfl (X.move (v := .string _) rfl) ?_
    refine X.opE X.wN rfl (X.callE (Find_c nm _ (hsD.keep hk1) (by omega)) Tryz.call56 rfl rfl) ?_
    rintro _ w2 ⟨rfl, hk2⟩
    have hk2' := hk2.size
    refine X.opw X.wN rfl (X.assign (v := .int .i64 _) rfl) ?_
    refine X.opsEnd ?_
    refine X.seq ?_
    refine X.seq ?_
    refine X.region ?_
    refine X.opw X.wN rfl (X.move (v := .int .i64 _) rfl) ?_
    refine X.opP X.wN rfl rfl (X.lss rfl rfl) (fun h24 => ?_) (fun h24 => ?_)
    · refine X.opsEnd ?_
      refine X.condT rfl ?_
      refine X.seq ?_
      refine X.region ?_
      refine X.opw X.wN rfl (X.assign rfl) ?_
      refine X.opsEnd ?_
      refine X.ret1 (v := (.int .i64 _)) Tryz.func18 Tryz.results18 rfl ?_
      have e : t.write nm a y = (52, t) := by simp only [RS.write, if_neg (show ¬ t.down = true by rw [hd]; decide), if_pos h24]
      rw [e]
      exact ⟨rfl, col, (h.keep (hk1.trans hk2)).r, Stp.keep (hk1.trans hk2)⟩
    · have hk0 : 0 ≤ rfind nm t.dir := by omega
      have hk1' := hok.dir _ (rfind_at hk0)
      obtain ⟨p, f, v1, v2, v3, hpp, hff, hfl⟩ := h.at_ hok ⟨hk0, hk1'.2⟩
      have hfB := hfl.B
      have hfc := hfl.c
      have hfpl := hfB.lt
      have hfok := hok.fs f (List.mem_of_getElem? hff)
      have hfat := rfat_at hff
      obtain ⟨Af1, cf1, e, hcf1, hf1⟩ := hfl.M1.slF KB_flat 0 (fun _ _ => Nat.zero_le _)
      subst e
      obtain ⟨Af2, cf2, e, hcf2, hf2⟩ := hfl.M2.slF KB_flat 0 (fun _ _ => Nat.zero_le _)
      subst e
      obtain ⟨Af3, cf3, e, hcf3, hf3⟩ := hfl.M3.slF KI_flat 0 (fun _ _ => Nat.zero_le _)
      subst e
      refine X.opsEnd ?_
      refine X.condF rfl ?_
      refine X.skip ?_
      refine X.seq ?_
      refine X.region ?_
      refine X.opw X.wN rfl (X.move rfl) ?_
      refine X.opw X.wN rfl (X.nilCk rfl) ?_
      refine X.opw X.wN rfl (X.fldB (j := 1) Tryz.underlying83 rfl rfl Tryz.sizeOf79 rfl) ?_
      refine X.opw X.wN rfl (X.load1B Tryz.isAgg79 (hB.keep (hk1.trans hk2)) rfl rfl) ?_
      refine X.opw X.wN rfl (X.move (v := .int .i64 _) rfl) ?_
      refine X.opw X.wN rfl (X.idxS (hsF.keep (hk1.trans hk2)) Tryz.underlying79 Tryz.sizeOf108 rfl rfl ⟨by omega, by omega⟩) ?_
      refine X.opw X.wN rfl (X.loadS Tryz.isAgg108 (hsF.keep (hk1.trans hk2)) hpp rfl (fun _ h => by rw [h.1]; rfl)) ?_
      refine X.opw X.wN rfl (X.assign rfl) ?_
      refine X.opsEnd ?_
      refine X.seq ?_
      refine X.seq ?_
      refine X.region ?_
      refine X.opw X.wN rfl (X.move (v := .int .i64 _) rfl) ?_
      refine X.opP X.wN rfl rfl (X.lss rfl rfl) (fun h33 => ?_) (fun h33 => ?_)
      · refine X.opw X.wN rfl (X.move (v := .bool true) rfl) ?_
        refine X.opS rfl rfl rfl rfl rfl ?_
        refine X.opS rfl rfl rfl rfl rfl ?_
        refine X.opS rfl rfl rfl rfl rfl ?_
        refine X.opS rfl rfl rfl rfl rfl ?_
        refine X.opS rfl rfl rfl rfl rfl ?_
        refine X.opS rfl rfl rfl rfl rfl ?_
        refine X.opS rfl rfl rfl rfl rfl ?_
        refine X.opw X.wN rfl (X.pickT (v := .bool true) rfl rfl) ?_
        refine X.opsEnd ?_
        refine X.condT rfl ?_
        refine X.seq ?_
        refine X.region ?_
        refine X.opw X.wN rfl (X.assign rfl) ?_
        refine X.opsEnd ?_
        refine X.ret1 (v := (.int .i64 _)) Tryz.func18 Tryz.results18 rfl ?_
        have e : t.write nm a y = (5, t) := by simp only [RS.write, if_neg (show ¬ t.down = true by rw [hd]; decide), if_neg h24, hfat, if_pos (show a < 0 ∨ (f.1.length : Int) < a by omega)]
        rw [e]
        exact ⟨rfl, col, (h.keep (hk1.trans hk2)).r, Stp.keep (hk1.trans hk2)⟩
      · refine X.opw X.wN rfl (X.move (v := .bool false) rfl) ?_
        refine X.opw (X.wG rfl rfl rfl) rfl (X.move (v := .int .i64 _) rfl) ?_
        refine X.opw (X.wG rfl rfl rfl) rfl (X.move rfl) ?_
        refine X.opw (X.wG rfl rfl rfl) rfl (X.nilCk rfl) ?_
        refine X.opw (X.wG rfl rfl rfl) rfl (X.fldB (j := 0) Tryz.underlying110 rfl rfl Tryz.sizeOf31 rfl) ?_
        refine X.opw (X.wG rfl rfl rfl) rfl (X.load1B Tryz.isAgg31 (hfB.keep (hk1.trans hk2)) rfl rfl) ?_
        refine X.opw (X.wG rfl rfl rfl) rfl (X.lenSl Tryz.underlying31 rfl) ?_
        refine X.opP (X.wG rfl rfl rfl) rfl rfl (X.gtr rfl rfl) (fun h41 => ?_) (fun h41 => ?_)
        · refine X.opw X.wN rfl (X.pickF (v := .bool true) rfl rfl) ?_
          refine X.opsEnd ?_
          refine X.condT rfl ?_
          refine X.seq ?_
          refine X.region ?_
          refine X.opw X.wN rfl (X.assign rfl) ?_
          refine X.opsEnd ?_
          refine X.ret1 (v := (.int .i64 _)) Tryz.func18 Tryz.results18 rfl ?_
          have e : t.write nm a y = (5, t) := by simp only [RS.write, if_neg (show ¬ t.down = true by rw [hd]; decide), if_neg h24, hfat, if_pos (show a < 0 ∨ (f.1.length : Int) < a by omega)]
          rw [e]
          exact ⟨rfl, col, (h.keep (hk1.trans hk2)).r, Stp.keep (hk1.trans hk2)⟩
        · obtain ⟨a', rfl⟩ : ∃ a' : Nat, a = (a' : Int) := ⟨a.toNat, by omega⟩
          refine X.opw X.wN rfl (X.pickF (v := .bool false) rfl rfl) ?_
          refine X.opsEnd ?_
          refine X.condF rfl ?_
          refine X.skip ?_
          refine X.seq ?_
          refine X.seq ?_
          refine X.region ?_
          refine X.opw X.wN rfl (X.move (v := .slice _ _ _) rfl) ?_
          refine X.opw X.wN rfl (X.lenSl Tryz.underlying31 rfl) ?_
          refine X.opw X.wN rfl (X.move (v := .int .i64 _) rfl) ?_
          refine X.opw X.wN rfl (X.sub rfl rfl (X.w_i64 (by omega))) ?_
          refine X.opP X.wN rfl rfl (X.gtr rfl rfl) (fun h47 => ?_) (fun h47 => ?_)
          · refine X.opsEnd ?_
            refine X.condT rfl ?_
            refine X.seq ?_
            refine X.region ?_
            refine X.opw X.wN rfl (X.assign rfl) ?_
            refine X.opsEnd ?_
            refine X.ret1 (v := (.int .i64 _)) Tryz.func18 Tryz.results18 rfl ?_
            have e : t.write nm (a' : Int) y = (2, t) := by simp only [RS.write, Int.toNat_natCast, if_neg (show ¬ t.down = true by rw [hd]; decide), if_neg h24, hfat, if_neg (show ¬ ((a' : Int) < 0 ∨ (f.1.length : Int) < (a' : Int)) by omega), if_pos (show 1048576 - (a' : Int) < (y.length : Int) by omega)]
            rw [e]
            exact ⟨rfl, col, (h.keep (hk1.trans hk2)).r, Stp.keep (hk1.trans hk2)⟩
          · refine X.opsEnd ?_
            refine X.condF rfl ?_
            refine X.skip ?_
            refine X.seq ?_
            refine X.region ?_
            refine X.opw X.wN rfl (X.move rfl) ?_
            refine X.opw X.wN rfl (X.nilCk rfl) ?_
            refine X.opw X.wN rfl (X.fldB (j := 0) Tryz.underlying110 rfl rfl Tryz.sizeOf31 rfl) ?_
            refine X.opw X.wN rfl (X.load1B Tryz.isAgg31 (hfB.keep (hk1.trans hk2)) rfl rfl) ?_
            refine X.opw X.wN rfl (X.lenSl Tryz.underlying31 rfl) ?_
            refine X.opw X.wN rfl (X.move (v := .int .i64 _) rfl) ?_
            refine X.opw X.wN rfl (X.move (v := .slice _ _ _) rfl) ?_
            refine X.opw X.wN rfl (X.lenSl Tryz.underlying31 rfl) ?_
            refine X.opw X.wN rfl (X.add rfl rfl (X.w_i64 (by omega))) ?_
            refine X.opw X.wN rfl (X.maxII (c := ((max f.1.length (a' + m) : Nat) : Int)) rfl rfl (by split <;> omega)) ?_
            refine X.opw X.wN rfl (X.assign (v := .int .i64 _) rfl) ?_
            refine X.opsEnd ?_
            refine X.seq ?_
            refine X.seq ?_
            refine X.regionD (fun _ => False) 17 (by kernel_rfl) (by kernel_rfl) (fun w3 hk3 hz3 => ?_)
            refine X.dTake 0 rfl (by kernel_rfl) (by kernel_rfl) (by kernel_rfl) (X.dwN rfl) (fun w' hk' => X.move rfl) ?_
            refine X.dTake 2 rfl (by kernel_rfl) (by kernel_rfl) (by kernel_rfl) (X.dwN rfl) (fun w' hk' => X.move rfl) ?_
            refine X.dTake 3 rfl (by kernel_rfl) (by kernel_rfl) (by kernel_rfl) (X.dwN rfl) (fun w' hk' => X.nilCk rfl) ?_
            refine X.dTake 4 rfl (by kernel_rfl) (by kernel_rfl) (by kernel_rfl) (X.dwN rfl) (fun w' hk' => X.fldB (j := 0) Tryz.underlying110 rfl rfl Tryz.sizeOf31 rfl) ?_
            refine X.dTake 5 rfl (by kernel_rfl) (by kernel_rfl) (by kernel_rfl) (X.dwN rfl) (fun w' hk' => X.load1B Tryz.isAgg31 (hfB.keep (((hk1.trans hk2).trans hk3).trans hk')) rfl rfl) ?_
            refine X.dTake 6 rfl (by kernel_rfl) (by kernel_rfl) (by kernel_rfl) (X.dwN rfl) (fun w' hk' => X.lenSl Tryz.underlying31 rfl) ?_
            refine X.dTake 9 rfl (by kernel_rfl) (by kernel_rfl) (by kernel_rfl) (X.dwN rfl) (fun w' hk' => X.move (v := .int .i64 _) rfl) ?_
            refine X.dTake 12 rfl (by kernel_rfl) (by kernel_rfl) (by kernel_rfl) (X.dwN rfl) (fun w' hk' => X.move rfl) ?_
            refine X.dTake 13 rfl (by kernel_rfl) (by kernel_rfl) (by kernel_rfl) (X.dwN rfl) (fun w' hk' => X.nilCk rfl) ?_
            refine X.dTake 14 rfl (by kernel_rfl) (by kernel_rfl) (by kernel_rfl) (X.dwN rfl) (fun w' hk' => X.fldB (j := 0) Tryz.underlying83 rfl rfl Tryz.sizeOf3 rfl) ?_
            refine X.dTake 15 rfl (by kernel_rfl) (by kernel_rfl) (by kernel_rfl) (X.dwN rfl) (fun w' hk' => X.load1B Tryz.isAgg3 (hB.keep (((hk1.trans hk2).trans hk3).trans hk')) rfl rfl) ?_
            refine X.dE (i := 1) (by kernel_rfl) rfl (X.dwN rfl) (X.callE (RUsed_c _ (((h.keep hk1).keep hk2).keep hk3) hok) Tryz.call42 rfl rfl) (by rintro _ w4 ⟨rfl, hk4⟩ _; exact hk4.mono (fun _ _ h => h.elim)) ?_
            rintro _ w4 ⟨rfl, hk4⟩
            have hk4' := hk4.size
            refine X.dE (i := 7) (by kernel_rfl) rfl (X.dwN rfl) (X.callE (Rsectors_c _ _ (by omega)) Tryz.call59 rfl rfl) (by rintro _ w5 ⟨rfl, hk5⟩ _; exact hk5.mono (fun _ _ h => h.elim)) ?_
            rintro _ w5 ⟨rfl, hk5⟩
            have hk5' := hk5.size
            refine X.dTake 8 rfl (by kernel_rfl) (by kernel_rfl) (by kernel_rfl) (X.dwN rfl) (fun w' hk' => X.sub rfl rfl (X.w_i64 (by omega))) ?_
            refine X.dE (i := 10) (by kernel_rfl) rfl (X.dwN rfl) (X.callE (Rsectors_c _ _ (by omega)) Tryz.call59 rfl rfl) (by rintro _ w6 ⟨rfl, hk6⟩ _; exact hk6.mono (fun _ _ h => h.elim)) ?_
            rintro _ w6 ⟨rfl, hk6⟩
            have hk6' := hk6.size
            refine X.dTake 11 rfl (by kernel_rfl) (by kernel_rfl) (by kernel_rfl) (X.dwN rfl) (fun w' hk' => X.add rfl rfl (X.w_i64 (by omega))) ?_
            refine X.dTake 16 rfl (by kernel_rfl) (by kernel_rfl) (by kernel_rfl) (X.dwN rfl) (fun w' hk' => X.gtr rfl rfl) ?_
            refine X.dEnd (by kernel_rfl) ?_
            refine X.condB rfl (fun hf => ?_) (fun hf => ?_)
            · refine X.seq ?_
              refine X.region ?_
              refine X.opw X.wN rfl (X.assign rfl) ?_
              refine X.opsEnd ?_
              refine X.ret1 (v := (.int .i64 _)) Tryz.func18 Tryz.results18 rfl ?_
              have hfu : t.rm < (t.used : Int) - (rsec f.1.length : Int) + (rsec (max f.1.length (a' + y.length)) : Int) := by have := of_decide_eq_true hf; simp only [rsec]; rw [hyl]; exact this
              have e : t.write nm (a' : Int) y = (53, t) := by simp only [RS.write, Int.toNat_natCast, if_neg (show ¬ t.down = true by rw [hd]; decide), if_neg h24, hfat, if_neg (show ¬ ((a' : Int) < 0 ∨ (f.1.length : Int) < (a' : Int)) by omega), if_neg (show ¬ 1048576 - (a' : Int) < (y.length : Int) by omega), if_pos hfu]
              rw [e]
              exact ⟨rfl, col, (h.keep (((((hk1.trans hk2).trans hk3).trans hk4).trans hk5).trans hk6)).r, Stp.keep (((((hk1.trans hk2).trans hk3).trans hk4).trans hk5).trans hk6)⟩
            · refine X.skip ?_
              refine X.seq ?_
              refine X.regionD (fun k => w6.heap.size ≤ k) 14 (by kernel_rfl) (by kernel_rfl) (fun w7 hk7 hz7 => ?_)
              refine X.dTake 1 rfl (by kernel_rfl) (by kernel_rfl) (by kernel_rfl) (X.dwN rfl) (fun w' hk' => X.move rfl) ?_
              refine X.dTake 2 rfl (by kernel_rfl) (by kernel_rfl) (by kernel_rfl) (X.dwN rfl) (fun w' hk' => X.nilCk rfl) ?_
              refine X.dTake 3 rfl (by kernel_rfl) (by kernel_rfl) (by kernel_rfl) (X.dwN rfl) (fun w' hk' => X.fldB (j := 0) Tryz.underlying110 rfl rfl Tryz.sizeOf31 rfl) ?_
              refine X.dTake 4 rfl (by kernel_rfl) (by kernel_rfl) (by kernel_rfl) (X.dwN rfl) (fun w' hk' => X.load1B Tryz.isAgg31 ((hfB.keep ((((((hk1.trans hk2).trans hk3).trans hk4).trans hk5).trans hk6).trans hk7)).ext hk' (by first | (intro q g1 g2 g3; have hy1 := hy0 q g1 g2; first | omega | (have g3 : q = _ := g3; subst g3; omega) | (have g3 : _ ≤ q := g3; omega)) | (intro q g1 g2 g3; first | (have g3 : q = _ := g3; omega) | (have g3 : _ ≤ q := g3; omega) | omega | (have g3 : _ ∨ _ := g3; rcases g3 with g3 | g3 <;> omega)) | (intro hh; first | (have hh : _ = _ := hh; omega) | (have hh : _ ≤ _ := hh; omega) | (have hh : _ ∨ _ := hh; rcases hh with hh | hh <;> first | omega | (have hq := hlt _ (fun e => absurd (hh.symm.trans e) (by decide)); omega))) | (intros; omega) | (intro q g1 g2; first | (have g2 : q = _ := g2; omega) | (have g2 : _ ≤ q := g2; omega)))) rfl rfl) ?_
              refine X.dTake 6 rfl (by kernel_rfl) (by kernel_rfl) (by kernel_rfl) (X.dwN rfl) (fun w' hk' => X.move (v := .int .i64 _) rfl) ?_
              refine X.dTake 7 rfl (by kernel_rfl) (by kernel_rfl) (by kernel_rfl) (X.dwN rfl) (fun w' hk' => X.move rfl) ?_
              refine X.dTake 8 rfl (by kernel_rfl) (by kernel_rfl) (by kernel_rfl) (X.dwN rfl) (fun w' hk' => X.nilCk rfl) ?_
              refine X.dTake 9 rfl (by kernel_rfl) (by kernel_rfl) (by kernel_rfl) (X.dwN rfl) (fun w' hk' => X.fldB (j := 0) Tryz.underlying110 rfl rfl Tryz.sizeOf31 rfl) ?_
              refine X.dTake 10 rfl (by kernel_rfl) (by kernel_rfl) (by kernel_rfl) (X.dwN rfl) (fun w' hk' => X.load1B Tryz.isAgg31 ((hfB.keep ((((((hk1.trans hk2).trans hk3).trans hk4).trans hk5).trans hk6).trans hk7)).ext hk' (by first | (intro q g1 g2 g3; have hy1 := hy0 q g1 g2; first | omega | (have g3 : q = _ := g3; subst g3; omega) | (have g3 : _ ≤ q := g3; omega)) | (intro q g1 g2 g3; first | (have g3 : q = _ := g3; omega) | (have g3 : _ ≤ q := g3; omega) | omega | (have g3 : _ ∨ _ := g3; rcases g3 with g3 | g3 <;> omega)) | (intro hh; first | (have hh : _ = _ := hh; omega) | (have hh : _ ≤ _ := hh; omega) | (have hh : _ ∨ _ := hh; rcases hh with hh | hh <;> first | omega | (have hq := hlt _ (fun e => absurd (hh.symm.trans e) (by decide)); omega))) | (intros; omega) | (intro q g1 g2; first | (have g2 : q = _ := g2; omega) | (have g2 : _ ≤ q := g2; omega)))) rfl rfl) ?_
              refine X.dTake 11 rfl (by kernel_rfl) (by kernel_rfl) (by kernel_rfl) (X.dwN rfl) (fun w' hk' => X.lenSl Tryz.underlying31 rfl) ?_
              refine X.dTake 12 rfl (by kernel_rfl) (by kernel_rfl) (by kernel_rfl) (X.dwN rfl) (fun w' hk' => X.sub rfl rfl (X.w_i64 (by omega))) ?_
              refine X.dE (i := 0) (by kernel_rfl) rfl (X.dwN rfl) (X.lit0E (K := KB) (S := fun k => w7.heap.size ≤ k) Tryz.underlying31 Tryz.sizeOf5 (by intros; (try simp only [] at *); omega)) (by rintro v8 w8 ⟨hM8, hk8, hz8⟩ _; exact hk8.mono (fun _ _ h => h.elim)) ?_
              rintro v8 w8 ⟨hM8, hk8, hz8⟩
              refine X.dE (i := 5) (by kernel_rfl) rfl (X.dwN rfl) (X.appE (K := KB) (S := fun k => w7.heap.size ≤ k) KB_flat Tryz.underlying31 ERb rfl rfl hM8 ((m0 KB_flat (((((((hfl.M1.keep hk1).keep hk2).keep hk3).keep hk4).keep hk5).keep hk6).keep hk7)).keep hk8) (by (try simp only [List.length_append, List.length_cons, List.length_nil, List.length_take, List.length_drop, List.length_map, List.length_range]); omega) (by intros; (try simp only [] at *); omega)) (by rintro v9 w9 ⟨hM9, hx9⟩ _; exact hx9.mono (fun k _ h => by (try simp only [] at *); omega)) ?_
              rintro v9 w9 ⟨hM9, hx9⟩
              have hx9' := hx9.size
              refine X.dE (i := 13) (by kernel_rfl) rfl (X.dwN rfl) (X.appMkB (S := fun k => w7.heap.size ≤ k) Tryz.underlying31 Tryz.underlying3 ERbi rfl rfl (by omega) (Mine.mono (T := fun k => w7.heap.size ≤ k) hM9 (fun k h1 h2 => by (try simp only [] at *); omega)) (by (try simp only [List.length_append, List.length_cons, List.length_nil, List.length_take, List.length_drop, List.length_map, List.length_range]); omega) (by intros; (try simp only [] at *); omega)) (by rintro v10 w10 ⟨hM10, hx10⟩ _; exact hx10.mono (fun k _ h => by (try simp only [] at *); omega)) ?_
              rintro v10 w10 ⟨hM10, hx10⟩
              have hx10' := hx10.size
              refine X.dStep (i := 14) (by kernel_rfl) rfl (X.dwN rfl) (X.assign rfl) (fun h => absurd h (by decide)) ?_
              refine X.dEnd (by kernel_rfl) ?_
              refine X.seq ?_
              refine X.seq ?_
              refine X.region ?_
              refine X.opw X.wN rfl (X.assign rfl) ?_
              refine X.opsEnd ?_
              refine X.block ?_
              have hM12 := hM10
              have hpd : [] ++ f.1 ++ List.replicate (((max f.1.length (a' + m) : Nat) : Int) - (f.1.length : Int)).toNat 0 = rpad f.1 a' y.length := by rw [List.nil_append, rpad, hyl]; congr 2; omega
              rw [hpd] at hM12
              obtain ⟨Ax, cx9, e9, hcx9, _⟩ := hM12.slice
              subst e9
              have hM12 := hM12.mono (T := fun q => w.heap.size ≤ q) (fun q _ h => by (try dsimp only at h); omega)
              have hLp : (rpad f.1 a' y.length).length = max f.1.length (a' + m) := by rw [rpad, List.length_append, List.length_replicate, hyl]; omega
              have hyL := ((hy.keep ((((((((hk1.trans hk2).trans hk3).trans hk4).trans hk5).trans hk6).trans hk7).trans hk8).step hx9 (by intros; (try simp only [] at *); omega))).ext hx10 (by first | (intro q g1 g2 g3; have hy1 := hy0 q g1 g2; first | omega | (have g3 : q = _ := g3; subst g3; omega) | (have g3 : _ ≤ q := g3; omega)) | (intro q g1 g2 g3; first | (have g3 : q = _ := g3; omega) | (have g3 : _ ≤ q := g3; omega) | omega | (have g3 : _ ∨ _ := g3; rcases g3 with g3 | g3 <;> omega)) | (intro hh; first | (have hh : _ = _ := hh; omega) | (have hh : _ ≤ _ := hh; omega) | (have hh : _ ∨ _ := hh; rcases hh with hh | hh <;> first | omega | (have hq := hlt _ (fun e => absurd (hh.symm.trans e) (by decide)); omega))) | (intros; omega) | (intro q g1 g2; first | (have g2 : q = _ := g2; omega) | (have g2 : _ ≤ q := g2; omega))))
              have hfBL := ((hfB.keep ((((((((hk1.trans hk2).trans hk3).trans hk4).trans hk5).trans hk6).trans hk7).trans hk8).step hx9 (by intros; (try simp only [] at *); omega))).ext hx10 (by first | (intro q g1 g2 g3; have hy1 := hy0 q g1 g2; first | omega | (have g3 : q = _ := g3; subst g3; omega) | (have g3 : _ ≤ q := g3; omega)) | (intro q g1 g2 g3; first | (have g3 : q = _ := g3; omega) | (have g3 : _ ≤ q := g3; omega) | omega | (have g3 : _ ∨ _ := g3; rcases g3 with g3 | g3 <;> omega)) | (intro hh; first | (have hh : _ = _ := hh; omega) | (have hh : _ ≤ _ := hh; omega) | (have hh : _ ∨ _ := hh; rcases hh with hh | hh <;> first | omega | (have hq := hlt _ (fun e => absurd (hh.symm.trans e) (by decide)); omega))) | (intros; omega) | (intro q g1 g2; first | (have g2 : q = _ := g2; omega) | (have g2 : _ ≤ q := g2; omega))))
              have hBL := ((hB.keep ((((((((hk1.trans hk2).trans hk3).trans hk4).trans hk5).trans hk6).trans hk7).trans hk8).step hx9 (by intros; (try simp only [] at *); omega))).ext hx10 (by first | (intro q g1 g2 g3; have hy1 := hy0 q g1 g2; first | omega | (have g3 : q = _ := g3; subst g3; omega) | (have g3 : _ ≤ q := g3; omega)) | (intro q g1 g2 g3; first | (have g3 : q = _ := g3; omega) | (have g3 : _ ≤ q := g3; omega) | omega | (have g3 : _ ∨ _ := g3; rcases g3 with g3 | g3 <;> omega)) | (intro hh; first | (have hh : _ = _ := hh; omega) | (have hh : _ ≤ _ := hh; omega) | (have hh : _ ∨ _ := hh; rcases hh with hh | hh <;> first | omega | (have hq := hlt _ (fun e => absurd (hh.symm.trans e) (by decide)); omega))) | (intros; omega) | (intro q g1 g2; first | (have g2 : q = _ := g2; omega) | (have g2 : _ ≤ q := g2; omega))))
              have hkA : Keep w w10 := (((((((((hk1.trans hk2).trans hk3).trans hk4).trans hk5).trans hk6).trans hk7).trans hk8).step hx9 (by intros; (try simp only [] at *); omega)).step hx10 (by intros; (try simp only [] at *); omega))
              refine X.loopL (σ := Nat) (fun s => [(0, ptrV x), (2, .int .i64 (a' : Int)), (3, .slice Ay m cy), (10, ptrV p), (12, .slice Ax (rpad f.1 a' y.length).length cx9), (13, .int .i64 (s : Int))]) (fun s w' => s ≤ m ∧ Mine KB 5 (fun q => w.heap.size ≤ q) 0 0 w' (.slice Ax (rpad f.1 a' y.length).length cx9) (rput (rpad f.1 a' y.length) a' (y.take s)) ∧ Ext (fun q => w.heap.size ≤ q) w10 w') (fun s => m - s) 0 ⟨rfl, rfl, rfl, rfl, rfl, rfl, trivial⟩ ⟨Nat.zero_le _, by rw [show rput (rpad f.1 a' y.length) a' (y.take 0) = rpad f.1 a' y.length by simp [rput]]; exact hM12, Ext.refl _ _⟩ ?_
              rintro i b0 wi ⟨hi, gMi, hxi⟩ hback
              have hxi' := hxi.size
              have hrl : (rput (rpad f.1 a' y.length) a' (y.take i)).length = (rpad f.1 a' y.length).length := rput_len (by rw [List.length_take]; omega)
              refine X.seq ?_
              refine X.seq ?_
              refine X.region ?_
              refine X.opw X.wN rfl (X.move (v := .int .i64 _) rfl) ?_
              refine X.opw X.wN rfl (X.move (v := .slice _ _ _) rfl) ?_
              refine X.opw X.wN rfl (X.lenSl Tryz.underlying31 rfl) ?_
              refine X.opP X.wN rfl rfl (X.lss rfl rfl) (fun h92 => ?_) (fun h92 => ?_)
              · obtain ⟨z, hz⟩ := rget i hyl (by omega)
                refine X.opsEnd ?_
                refine X.condT rfl ?_
                refine X.skip ?_
                refine X.seq ?_
                refine X.block ?_
                refine X.region ?_
                refine X.opw X.wN rfl (X.move rfl) ?_
                refine X.opw X.wN rfl (X.move (v := .int .i64 _) rfl) ?_
                refine X.opw X.wN rfl (X.move (v := .int .i64 _) rfl) ?_
                refine X.opw X.wN rfl (X.add rfl rfl (X.w_i64 (by omega))) ?_
                refine X.opw X.wN rfl (X.move (v := .slice _ _ _) rfl) ?_
                refine X.opw X.wN rfl (X.move (v := .int .i64 _) rfl) ?_
                refine X.opw X.wN rfl (X.idxS (hyL.ext hxi (by first | (intro q g1 g2 g3; have hy1 := hy0 q g1 g2; first | omega | (have g3 : q = _ := g3; subst g3; omega) | (have g3 : _ ≤ q := g3; omega)) | (intro q g1 g2 g3; first | (have g3 : q = _ := g3; omega) | (have g3 : _ ≤ q := g3; omega) | omega | (have g3 : _ ∨ _ := g3; rcases g3 with g3 | g3 <;> omega)) | (intro hh; first | (have hh : _ = _ := hh; omega) | (have hh : _ ≤ _ := hh; omega) | (have hh : _ ∨ _ := hh; rcases hh with hh | hh <;> first | omega | (have hq := hlt _ (fun e => absurd (hh.symm.trans e) (by decide)); omega))) | (intros; omega) | (intro q g1 g2; first | (have g2 : q = _ := g2; omega) | (have g2 : _ ≤ q := g2; omega)))) Tryz.underlying31 Tryz.sizeOf5 rfl rfl ⟨by omega, by omega⟩) ?_
                refine X.opw X.wN rfl (X.loadS Tryz.isAgg5 (hyL.ext hxi (by first | (intro q g1 g2 g3; have hy1 := hy0 q g1 g2; first | omega | (have g3 : q = _ := g3; subst g3; omega) | (have g3 : _ ≤ q := g3; omega)) | (intro q g1 g2 g3; first | (have g3 : q = _ := g3; omega) | (have g3 : _ ≤ q := g3; omega) | omega | (have g3 : _ ∨ _ := g3; rcases g3 with g3 | g3 <;> omega)) | (intro hh; first | (have hh : _ = _ := hh; omega) | (have hh : _ ≤ _ := hh; omega) | (have hh : _ ∨ _ := hh; rcases hh with hh | hh <;> first | omega | (have hq := hlt _ (fun e => absurd (hh.symm.trans e) (by decide)); omega))) | (intros; omega) | (intro q g1 g2; first | (have g2 : q = _ := g2; omega) | (have g2 : _ ≤ q := g2; omega)))) hz rfl (fun _ h => by rw [h.1]; rfl)) ?_
                refine X.opw X.wN rfl (X.idxS (gMi.rd KB_flat).2 Tryz.underlying31 Tryz.sizeOf5 rfl rfl ⟨by omega, by omega⟩) ?_
                refine X.opE X.wN rfl (X.storeM (y := z) (j := a' + i) Tryz.sizeOf5 gMi (by omega) rfl rfl) ?_
                rintro _ w11 ⟨gMs, hxs, hzs⟩
                refine X.opsEnd ?_
                refine X.inBlock ?_
                refine X.region ?_
                refine X.opw X.wN rfl (X.move (v := .int .i64 _) rfl) ?_
                refine X.opw X.wN rfl (X.add rfl rfl (X.w_i64 (by omega))) ?_
                refine X.opw X.wN rfl (X.assign (v := .int .i64 _) rfl) ?_
                refine X.opsEnd ?_
                refine hback (i + 1) _ _ ⟨rfl, rfl, rfl, rfl, rfl, rfl, trivial⟩ ⟨by omega, by rw [← rput_step hz (by omega)]; exact gMs, (Ext.andThen (Ext.andThen (Ext.refl (fun q => w.heap.size ≤ q) _) hxi (by intro q h1 h2; first | exact (h2 : False).elim | exact h2)) hxs (by intro q h1 h2; first | exact (h2 : False).elim | exact h2))⟩ (by omega)
              · refine X.opsEnd ?_
                refine X.condF rfl ?_
                refine X.exit rfl ?_
                refine X.seq ?_
                refine X.region ?_
                refine X.opw X.wN rfl (X.move rfl) ?_
                refine X.opw X.wN rfl (X.move rfl) ?_
                refine X.opw X.wN rfl (X.nilCk rfl) ?_
                refine X.opw X.wN rfl (X.fldB (j := 0) Tryz.underlying110 rfl rfl Tryz.sizeOf31 rfl) ?_
                refine X.opE X.wN rfl (X.storeE Tryz.sizeOf31 (hfBL.ext hxi (by first | (intro q g1 g2 g3; have hy1 := hy0 q g1 g2; first | omega | (have g3 : q = _ := g3; subst g3; omega) | (have g3 : _ ≤ q := g3; omega)) | (intro q g1 g2 g3; first | (have g3 : q = _ := g3; omega) | (have g3 : _ ≤ q := g3; omega) | omega | (have g3 : _ ∨ _ := g3; rcases g3 with g3 | g3 <;> omega)) | (intro hh; first | (have hh : _ = _ := hh; omega) | (have hh : _ ≤ _ := hh; omega) | (have hh : _ ∨ _ := hh; rcases hh with hh | hh <;> first | omega | (have hq := hlt _ (fun e => absurd (hh.symm.trans e) (by decide)); omega))) | (intros; omega) | (intro q g1 g2; first | (have g2 : q = _ := g2; omega) | (have g2 : _ ≤ q := g2; omega)))) rfl rfl rfl rfl) ?_
                rintro _ w12 ⟨hB12, hx12, hz12⟩
                refine X.opsEnd ?_
                refine X.seq ?_
                refine X.seq ?_
                refine X.region ?_
                refine X.opw X.wN rfl (X.move (v := .slice _ _ _) rfl) ?_
                have hmi : i = m := by omega
                rw [hmi, List.take_of_length_le (by omega)] at gMi
                have hx : Ext (fun q => col q = 4 + 3 * (rfind nm t.dir).toNat) w w12 := (Ext.andThen (Ext.andThen (hkA.mono (fun _ _ h => h.elim)) hxi (by intro q h1 h2; first | exact (h2 : False).elim | exact h2 | (have h2 : q = _ := h2; subst h2; omega) | (have h2 : _ ≤ q := h2; omega) | (have h2 : _ ≤ q ∧ _ := h2; omega) | (rcases h2 with h2 | h2 | h2 <;> first | omega | (subst h2; omega)) | (rcases h2 with h2 | h2 <;> first | omega | (subst h2; omega)))) hx12 (by intro q h1 h2; first | exact (h2 : False).elim | exact h2 | (have h2 : q = _ := h2; subst h2; omega) | (have h2 : _ ≤ q := h2; omega) | (have h2 : _ ≤ q ∧ _ := h2; omega) | (rcases h2 with h2 | h2 | h2 <;> first | omega | (subst h2; omega)) | (rcases h2 with h2 | h2 <;> first | omega | (subst h2; omega))))
                have hxs := hx.size
                obtain ⟨col', hcol⟩ : ∃ col', col' = rec' col w.heap.size w12.heap.size (5 + 3 * (rfind nm t.dir).toNat) := ⟨_, rfl⟩
                have hold : ∀ q, q < w.heap.size → col' q = col q := fun q hq => by rw [hcol]; exact rec_old hq
                have hnew : ∀ q, w.heap.size ≤ q → q < w12.heap.size → col' q = 5 + 3 * (rfind nm t.dir).toNat := fun q h1 h2 => by rw [hcol]; exact rec_new h1 h2
                have hltc : ∀ q, col' q ≠ 0 → q < w12.heap.size := fun q hq => by rw [hcol] at hq; exact rec_lt hlt hxs hq
                have P := h.part (col' := col') (fun v => v = 4 + 3 * (rfind nm t.dir).toNat) hx hold (fun q hq ht => ht)
                have hst : Stp col w col' w12 := ⟨hold, hx.mono (fun q _ t => by (try simp only [] at t); omega)⟩
                have hRA : RkB col' w12 x (.slice AF pt.length cF) (.slice AD t.dir.length cD) vX (.slice AC t.chs.length cC) pt { t with fs := t.fs.set (rfind nm t.dir).toNat (rwrt f.1 a' y, f.2.1, f.2.2) } := ⟨P.B (by omega), P.F (by omega), P.D (by omega), P.X (by omega), P.C (by omega), P.cx, hltc, by rw [List.length_set]; exact h.pl, fun j q g h1 h2 => by
                  by_cases hj : j = (rfind nm t.dir).toNat
                  · subst hj
                    rw [hpp] at h1
                    have h2' : (t.fs.set (rfind nm t.dir).toNat (rwrt f.1 a' y, f.2.1, f.2.2))[(rfind nm t.dir).toNat]? = some g := h2
                    rw [List.getElem?_set_self (List.getElem?_eq_some_iff.1 hff).1] at h2'
                    cases h1; cases h2'
                    exact ⟨_, _, _, hB12, (hold _ hfpl).trans hfc, ((gMi.ext hx12 (by intros; omega) (by intro q g1 g2; (try dsimp only at g1); (try dsimp only at g2); first | omega | (have g2 : q = _ := g2; subst g2; omega) | (subst g2; omega)))).mono (fun q hq hS => hnew q hS hq), colr hfl.M2 hx hold (fun q _ ht => by (try dsimp only at ht); omega), colr hfl.M3 hx hold (fun q _ ht => by (try dsimp only at ht); omega)⟩
                  · have h2' : (t.fs.set (rfind nm t.dir).toNat (rwrt f.1 a' y, f.2.1, f.2.2))[j]? = some g := h2
                    rw [List.getElem?_set_ne (fun e => hj e.symm)] at h2'
                    exact P.fl j q g h1 h2' (by omega) (fun v a1 a2 => by omega)⟩
                have hxW : Ext (fun q => col q ≠ 0) w w12 := hst.2
                refine X.opw X.wN rfl (X.lenSl Tryz.underlying31 rfl) ?_
                refine X.opP X.wN rfl rfl (X.gtr rfl rfl) (fun h110 => ?_) (fun h110 => ?_)
                · refine X.opsEnd ?_
                  refine X.condT rfl ?_
                  refine X.seq ?_
                  refine X.region ?_
                  refine X.opw X.wN rfl (X.move (v := .int .i64 _) rfl) ?_
                  refine X.opw X.wN rfl (X.quo (c := ((a' / 64 + 0 : Nat) : Int)) rfl rfl (by decide) (by rw [show (a' : Int).tdiv 64 = ((a' / 64 + 0 : Nat) : Int) from rfl]; exact X.w_i64 (by omega))) ?_
                  refine X.opw X.wN rfl (X.assign (v := .int .i64 _) rfl) ?_
                  refine X.opsEnd ?_
                  refine X.block ?_
                  have hcn : rtouch a' y.length = (a' + m - 1) / 64 + 1 - a' / 64 := by rw [rtouch, if_neg (by omega), rsec, hyl]; omega
                  refine X.loopL (σ := Nat) (fun s => [(0, ptrV x), (2, .int .i64 (a' : Int)), (3, .slice Ay m cy), (10, ptrV p), (14, .int .i64 ((a' / 64 + s : Nat) : Int))]) (fun s w' => s ≤ rtouch a' y.length ∧ ∃ cj, RkB cj w' x (.slice AF pt.length cF) (.slice AD t.dir.length cD) vX (.slice AC t.chs.length cC) pt { t with fs := t.fs.set (rfind nm t.dir).toNat (rwrt f.1 a' y, f.2.1, rmark (a' / 64) (s) f.2.2) } ∧ (∀ q, q < w.heap.size → cj q = col q) ∧ Ext (fun q => col q ≠ 0) w w') (fun s => rtouch a' y.length - s) 0 ⟨rfl, rfl, rfl, rfl, rfl, trivial⟩ ⟨Nat.zero_le _, col', hRA, hold, hxW⟩ ?_
                  rintro j bj wj ⟨hj, cj, hRj, hcj, hxj⟩ hback
                  have hxj' := hxj.size
                  have hBj := hRj.B
                  refine X.seq ?_
                  refine X.seq ?_
                  refine X.region ?_
                  refine X.opw X.wN rfl (X.move (v := .int .i64 _) rfl) ?_
                  refine X.opw X.wN rfl (X.move (v := .int .i64 _) rfl) ?_
                  refine X.opw X.wN rfl (X.move (v := .slice _ _ _) rfl) ?_
                  refine X.opw X.wN rfl (X.lenSl Tryz.underlying31 rfl) ?_
                  refine X.opw X.wN rfl (X.add rfl rfl (X.w_i64 (by omega))) ?_
                  refine X.opw X.wN rfl (X.sub rfl rfl (X.w_i64 (by omega))) ?_
                  refine X.opw X.wN rfl (X.quo (c := (((a' + m - 1) / 64 : Nat) : Int)) rfl rfl (by decide) (by rw [show ((a' : Int) + (m : Int) - 1).tdiv 64 = (((a' + m - 1) / 64 : Nat) : Int) by rw [show (a' : Int) + (m : Int) - 1 = ((a' + m - 1 : Nat) : Int) by omega]; rfl]; exact X.w_i64 (by omega))) ?_
                  refine X.opP X.wN rfl rfl (X.leq rfl rfl) (fun h120 => ?_) (fun h120 => ?_)
                  · obtain ⟨u1, u2, u3, hfj⟩ := hRj.fl (rfind nm t.dir).toNat p _ hpp (List.getElem?_set_self (List.getElem?_eq_some_iff.1 hff).1)
                    have hfjB := hfj.B
                    obtain ⟨Au3, cu3, e, hcu3, hu3⟩ := hfj.M3.slF KI_flat 0 (fun _ _ => Nat.zero_le _)
                    subst e
                    have hrml := rmark_len j (a' / 64) f.2.2
                    refine X.opsEnd ?_
                    refine X.condT rfl ?_
                    refine X.skip ?_
                    refine X.seq ?_
                    refine X.block ?_
                    refine X.region ?_
                    refine X.opw X.wN rfl (X.move rfl) ?_
                    refine X.opw X.wN rfl (X.move rfl) ?_
                    refine X.opw X.wN rfl (X.nilCk rfl) ?_
                    refine X.opw X.wN rfl (X.fldB (j := 2) Tryz.underlying110 rfl rfl Tryz.sizeOf95 rfl) ?_
                    refine X.opw X.wN rfl (X.load1B Tryz.isAgg95 hfjB rfl rfl) ?_
                    refine X.opw X.wN rfl (X.move (v := .int .i64 _) rfl) ?_
                    refine X.opE X.wN rfl (X.callE (put_c _ _ hu3 hcu3 (by omega) (by have h9 : (rmark (a' / 64) j f.2.2).length ≤ 100000 := (by omega); exact h9)) Tryz.call60 rfl rfl) ?_
                    rintro vP w13 ⟨hP, hk13⟩
                    have hk13' := hk13.size
                    refine X.opw X.wN rfl (X.nilCk rfl) ?_
                    refine X.opw X.wN rfl (X.fldB (j := 2) Tryz.underlying110 rfl rfl Tryz.sizeOf95 rfl) ?_
                    refine X.opE X.wN rfl (X.storeE Tryz.sizeOf95 (hfjB.keep hk13) rfl rfl rfl (hP.elim (fun h => by rw [h.1]; rfl) (fun h => by obtain ⟨A', c', e, _⟩ := h.slice; rw [e]; rfl))) ?_
                    rintro _ w14 ⟨hB14, hx14, hz14⟩
                    refine X.opsEnd ?_
                    refine X.inBlock ?_
                    refine X.region ?_
                    refine X.opw X.wN rfl (X.move (v := .int .i64 _) rfl) ?_
                    refine X.opw X.wN rfl (X.add rfl rfl (X.w_i64 (by omega))) ?_
                    refine X.opw X.wN rfl (X.assign (v := .int .i64 _) rfl) ?_
                    refine X.opsEnd ?_
                    have hLj : rmark (a' / 64) (j + 1) f.2.2 = lput ((a' / 64 + j : Nat) : Int) (rmark (a' / 64) j f.2.2) := rmark_snoc _ _ _
                    have hjx : Ext (fun q => cj q = 4 + 3 * (rfind nm t.dir).toNat) wj w14 := (Ext.andThen (Ext.andThen (Ext.refl (fun q => cj q = 4 + 3 * (rfind nm t.dir).toNat) _) hk13 (by intro q h1 h2; first | exact (h2 : False).elim | (have h2 : q = _ := h2; subst h2; exact hfj.c))) hx14 (by intro q h1 h2; first | exact (h2 : False).elim | (have h2 : q = _ := h2; subst h2; exact hfj.c)))
                    have hjs := hjx.size
                    have hjl := hRj.lt
                    obtain ⟨cn, hcn2⟩ : ∃ cn, cn = rec' cj wj.heap.size w14.heap.size 3 := ⟨_, rfl⟩
                    have hold2 : ∀ q, q < wj.heap.size → cn q = cj q := fun q hq => by rw [hcn2]; exact rec_old hq
                    have hnew2 : ∀ q, wj.heap.size ≤ q → q < w14.heap.size → cn q = 3 := fun q h1 h2 => by rw [hcn2]; exact rec_new h1 h2
                    have hlt2 : ∀ q, cn q ≠ 0 → q < w14.heap.size := fun q hq => by rw [hcn2] at hq; exact rec_lt hjl hjs hq
                    have P2 := hRj.part (col' := cn) (fun v => v = 4 + 3 * (rfind nm t.dir).toNat) hjx hold2 (fun q hq ht => ht)
                    have hMP := putM (S := fun q => cn q = 3) (T := fun q => cn q = 3) (hP.imp id (fun hm => (hm.ext hx14 (by intros; omega) (by intro q g1 g2; have g2 : q = _ := g2; have g1 : _ ≤ q := g1; have := hfj.B.lt; omega)))) (colr hfj.M3 hjx hold2 (fun q _ ht => by (try dsimp only at ht); omega)) (fun q h => h) (fun q h1 h2 => hnew2 q h1 h2)
                    have hRn : RkB cn w14 x (.slice AF pt.length cF) (.slice AD t.dir.length cD) vX (.slice AC t.chs.length cC) pt { t with fs := t.fs.set (rfind nm t.dir).toNat (rwrt f.1 a' y, f.2.1, rmark (a' / 64) (j + 1) f.2.2) } := by
                      rw [hLj]
                      refine ⟨P2.B (by omega), P2.F (by omega), P2.D (by omega), P2.X (by omega), P2.C (by omega), P2.cx, hlt2, by rw [List.length_set]; exact h.pl, fun k q g h1 h2 => ?_⟩
                      by_cases hkk : k = (rfind nm t.dir).toNat
                      · subst hkk
                        rw [hpp] at h1
                        have h2' : (t.fs.set (rfind nm t.dir).toNat _)[(rfind nm t.dir).toNat]? = some g := h2
                        rw [List.getElem?_set_self (List.getElem?_eq_some_iff.1 hff).1] at h2'
                        cases h1; cases h2'
                        exact ⟨_, _, _, hB14, (hold2 _ hfj.B.lt).trans hfj.c, colr hfj.M1 hjx hold2 (fun q _ ht => by (try dsimp only at ht); omega), colr hfj.M2 hjx hold2 (fun q _ ht => by (try dsimp only at ht); omega), hMP⟩
                      · have h2' : (t.fs.set (rfind nm t.dir).toNat _)[k]? = some g := h2
                        rw [List.getElem?_set_ne (fun e => hkk e.symm)] at h2'
                        exact P2.fl k q g h1 (by show (t.fs.set (rfind nm t.dir).toNat _)[k]? = some g; rw [List.getElem?_set_ne (fun e => hkk e.symm)]; exact h2') (by omega) (fun v a1 a2 => by omega)
                    have hxn : Ext (fun q => col q ≠ 0) w w14 := Ext.trans hxj hjx (fun _ _ h => h) (fun q hq h => by have h : cj q = _ := h; have := hcj q hq; omega)
                    refine hback (j + 1) _ _ ⟨rfl, rfl, rfl, rfl, rfl, trivial⟩ ⟨by omega, cn, hRn, fun q hq => (hold2 q (by omega)).trans (hcj q hq), hxn⟩ (by omega)
                  · refine X.opsEnd ?_
                    refine X.condF rfl ?_
                    refine X.exit rfl ?_
                    refine X.seq ?_
                    refine X.region ?_
                    refine X.opw X.wN rfl (X.move rfl) ?_
                    have hje : j = rtouch a' y.length := by omega
                    rw [hje] at hRj
                    refine X.opE X.wN rfl (X.callE (Rdid_c _ hRj (by (try dsimp only); omega)) Tryz.call58 rfl rfl) ?_
                    rintro _ w15 ⟨rfl, hR2, hx15⟩
                    have hx15' := hx15.size
                    refine X.opw X.wN rfl (X.assign (v := .int .i64 _) rfl) ?_
                    refine X.opsEnd ?_
                    refine X.ret1 (v := (.int .i64 _)) Tryz.func18 Tryz.results18 rfl ?_
                    have hfu : ¬ t.rm < (t.used : Int) - (rsec f.1.length : Int) + (rsec (max f.1.length (a' + y.length)) : Int) := by have := of_decide_eq_false hf; simp only [rsec]; rw [hyl]; exact this
                    have hxz : Ext (fun q => col q ≠ 0) w w15 := (Ext.andThen hxj hx15 (by intro q h1 h2; have h2 : q = x := h2; subst h2; omega))
                    have e : t.write nm (a' : Int) y = (0, ({ t with fs := t.fs.set (rfind nm t.dir).toNat (rwrt f.1 a' y, f.2.1, rmark (a' / 64) (rtouch a' y.length) f.2.2) } : RS).did) := by simp only [RS.write, Int.toNat_natCast, if_neg (show ¬ t.down = true by rw [hd]; decide), if_neg h24, hfat, if_neg (show ¬ ((a' : Int) < 0 ∨ (f.1.length : Int) < (a' : Int)) by omega), if_neg (show ¬ 1048576 - (a' : Int) < (y.length : Int) by omega), if_neg hfu]
                    rw [e]
                    exact ⟨rfl, _, hR2.r, ⟨fun q hq => hcj q hq, hxz⟩⟩
                · refine X.opsEnd ?_
                  refine X.condF rfl ?_
                  refine X.skip ?_
                  refine X.seq ?_
                  refine X.region ?_
                  refine X.opw X.wN rfl (X.move rfl) ?_
                  have hm0 : rtouch a' y.length = 0 := by rw [rtouch, if_pos (by omega)]
                  have hRz : RkB col' w12 x (.slice AF pt.length cF) (.slice AD t.dir.length cD) vX (.slice AC t.chs.length cC) pt { t with fs := t.fs.set (rfind nm t.dir).toNat (rwrt f.1 a' y, f.2.1, rmark (a' / 64) (rtouch a' y.length) f.2.2) } := by rw [hm0]; exact hRA
                  refine X.opE X.wN rfl (X.callE (Rdid_c _ hRz (by (try dsimp only); omega)) Tryz.call58 rfl rfl) ?_
                  rintro _ w16 ⟨rfl, hR2, hx16⟩
                  have hx16' := hx16.size
                  refine X.opw X.wN rfl (X.assign (v := .int .i64 _) rfl) ?_
                  refine X.opsEnd ?_
                  refine X.ret1 (v := (.int .i64 _)) Tryz.func18 Tryz.results18 rfl ?_
                  have hfu : ¬ t.rm < (t.used : Int) - (rsec f.1.length : Int) + (rsec (max f.1.length (a' + y.length)) : Int) := by have := of_decide_eq_false hf; simp only [rsec]; rw [hyl]; exact this
                  have hxz : Ext (fun q => col q ≠ 0) w w16 := (Ext.andThen hxW hx16 (by intro q h1 h2; have h2 : q = x := h2; subst h2; omega))
                  have e : t.write nm (a' : Int) y = (0, ({ t with fs := t.fs.set (rfind nm t.dir).toNat (rwrt f.1 a' y, f.2.1, rmark (a' / 64) (rtouch a' y.length) f.2.2) } : RS).did) := by simp only [RS.write, Int.toNat_natCast, if_neg (show ¬ t.down = true by rw [hd]; decide), if_neg h24, hfat, if_neg (show ¬ ((a' : Int) < 0 ∨ (f.1.length : Int) < (a' : Int)) by omega), if_neg (show ¬ 1048576 - (a' : Int) < (y.length : Int) by omega), if_neg hfu]
                  rw [e]
                  exact ⟨rfl, _, hR2.r, ⟨fun q hq => hold q hq, hxz⟩⟩
end Go.Proofs.YtcdebnppbnmmgaaGreat

namespace Go.Proofs.YtcdebnppbnmmgaaGreat
open Go Go.Proofs.YtcdebnppbnmmgaaGreat.X
set_option linter.unusedVariables false
set_option linter.unusedSimpArgs false
theorem rxor8 (x y : UInt8) : IntKind.u8.wrap ((BitVec.ofInt IntKind.u8.bits (x.toNat : Int) ^^^ BitVec.ofInt IntKind.u8.bits (y.toNat : Int)).toNat : Int) = ((x ^^^ y).toNat : Int) := by
  have h : ∀ z : UInt8, BitVec.ofInt IntKind.u8.bits (z.toNat : Int) = z.toBitVec := fun z => by
    apply BitVec.eq_of_toNat_eq
    have := z.toNat_lt
    simp [BitVec.toNat_ofInt, IntKind.bits]
  rw [h, h]
  show IntKind.u8.wrap ((x ^^^ y).toNat : Int) = _
  exact X.w_u8 (by have h1 := (x ^^^ y).toNat_lt; omega)
def rrot (l : List UInt8) (p : Nat) (m : UInt8) : List UInt8 := l.set p (l.getD p 0 ^^^ m)
theorem rrot_at {l : List UInt8} {p : Nat} {m x : UInt8} (h : l[p]? = some x) : rrot l p m = l.set p (x ^^^ m) := by rw [rrot, List.getD_eq_getElem?_getD, h]; rfl
theorem rrot_out {l : List UInt8} {p : Nat} {m : UInt8} (h : l.length ≤ p) : rrot l p m = l := by rw [rrot, List.set_eq_of_length_le h]
def RS.rot (nm : ByteArray) (a : Int) (m : UInt8) (t : RS) : Int × RS := if rfind nm t.dir < 0 then (52, t) else if a < 0 ∨ ((rfat t (rfind nm t.dir)).1.length : Int) ≤ a then (5, t)
  else (0, { t with fs := t.fs.set (rfind nm t.dir).toNat (rrot (rfat t (rfind nm t.dir)).1 a.toNat m, rrot (rfat t (rfind nm t.dir)).2.1 a.toNat m, (rfat t (rfind nm t.dir)).2.2) })
set_option maxHeartbeats 4000000 in
set_option maxRecDepth 100000 in
theorem RRot_c {col : Nat → Nat} {x : Nat} {vF vD vX vC : Value} {pt : List Nat} {t : RS} (nm : ByteArray) (a : Int) (mk : UInt8) (w : World) (h : RkB col w x vF vD vX vC pt t) (hok : t.Ok) (ha : -9223372036854775808 ≤ a ∧ a ≤ 9223372036854775807) : Ret Tryz.prog 30 #[ptrV x, .string nm, .int .i64 a, .int .u8 (mk.toNat : Int)] w fun r w' => r = .int .i64 (t.rot nm a mk).1 ∧ ∃ col', RkR col' w' x (t.rot nm a mk).2 ∧ Stp col w col' w' := by
  obtain ⟨AD, cD, e, hcD, hsD⟩ := h.D.slF KEn_flat 0 (fun _ _ => Nat.zero_le _)
  subst e
  obtain ⟨AC, cC, e, hcC, hsC⟩ := h.C.slF KCh_flat 0 (fun _ _ => Nat.zero_le _)
  subst e
  obtain ⟨AF, cF, e, hcF, hsF⟩ := h.F.slF KRp_flat 0 (fun _ _ => Nat.zero_le _)
  subst e
  have hB := h.B
  have hxl := h.B.lt
  have hlt := h.lt
  have hcx := h.cx
  have hok1 := hok.few
  have hok2 := hok.many
  have hok3 := hok.left
  have hplx := h.pl
  refine X.enter Tryz.func30 rfl Tryz.ntmps30 rfl ?_
  refine X.seq ?_
  refine X.region ?_
  refine X.opw X.wN rfl (X.assign rfl) ?_
  refine X.opsEnd ?_
  refine X.seq ?_
  refine X.region ?_
  refine X.opw X.wN rfl (X.move rfl) ?_
  refine X.opw X.wN rfl (X.nilCk rfl) ?_
  refine X.opw X.wN rfl (X.fldB (j := 2) Tryz.underlying83 rfl rfl Tryz.sizeOf80 rfl) ?_
  refine X.opw X.wN rfl (X.load1B Tryz.isAgg80 hB rfl rfl) ?_
  refine X.opw X.wN rfl (X.move (v := .string _) rfl) ?_
  refine X.opE X.wN rfl (X.callE (Find_c nm _ hsD (by omega)) Tryz.call56 rfl rfl) ?_
  rintro _ w1 ⟨rfl, hk1⟩
  have hk1' := hk1.size
  refine X.opw X.wN rfl (X.assign (v := .int .i64 _) rfl) ?_
  refine X.opsEnd ?_
  refine X.seq ?_
  refine X.seq ?_
  refine X.region ?_
  refine X.opw X.wN rfl (X.move (v := .int .i64 _) rfl) ?_
  refine X.opP X.wN rfl rfl (X.lss rfl rfl) (fun h18 => ?_) (fun h18 => ?_)
  · refine X.opsEnd ?_
    refine X.condT rfl ?_
    refine X.seq ?_
    refine X.region ?_
    refine X.opw X.wN rfl (X.assign rfl) ?_
    refine X.opsEnd ?_
    refine X.ret1 (v := (.int .i64 _)) Tryz.func30 Tryz.results30 rfl ?_
    have e : t.rot nm a mk = (52, t) := by simp only [RS.rot, if_pos h18]
    rw [e]
    exact ⟨rfl, col, (h.keep hk1).r, Stp.keep hk1⟩
  · have hk0 : 0 ≤ rfind nm t.dir := by omega
    have hk1' := hok.dir _ (rfind_at hk0)
    obtain ⟨p, f, v1, v2, v3, hpp, hff, hfl⟩ := h.at_ hok ⟨hk0, hk1'.2⟩
    have hfB := hfl.B
    have hfc := hfl.c
    have hfpl := hfB.lt
    have hfok := hok.fs f (List.mem_of_getElem? hff)
    have hfat := rfat_at hff
    obtain ⟨Af1, cf1, e, hcf1, hf1⟩ := hfl.M1.slF KB_flat 0 (fun _ _ => Nat.zero_le _)
    subst e
    obtain ⟨Af2, cf2, e, hcf2, hf2⟩ := hfl.M2.slF KB_flat 0 (fun _ _ => Nat.zero_le _)
    subst e
    obtain ⟨Af3, cf3, e, hcf3, hf3⟩ := hfl.M3.slF KI_flat 0 (fun _ _ => Nat.zero_le _)
    subst e
    refine X.opsEnd ?_
    refine X.condF rfl ?_
    refine X.skip ?_
    refine X.seq ?_
    refine X.region ?_
    refine X.opw X.wN rfl (X.move rfl) ?_
    refine X.opw X.wN rfl (X.nilCk rfl) ?_
    refine X.opw X.wN rfl (X.fldB (j := 1) Tryz.underlying83 rfl rfl Tryz.sizeOf79 rfl) ?_
    refine X.opw X.wN rfl (X.load1B Tryz.isAgg79 (hB.keep hk1) rfl rfl) ?_
    refine X.opw X.wN rfl (X.move (v := .int .i64 _) rfl) ?_
    refine X.opw X.wN rfl (X.idxS (hsF.keep hk1) Tryz.underlying79 Tryz.sizeOf108 rfl rfl ⟨by omega, by omega⟩) ?_
    refine X.opw X.wN rfl (X.loadS Tryz.isAgg108 (hsF.keep hk1) hpp rfl (fun _ h => by rw [h.1]; rfl)) ?_
    refine X.opw X.wN rfl (X.assign rfl) ?_
    refine X.opsEnd ?_
    refine X.seq ?_
    refine X.seq ?_
    refine X.region ?_
    refine X.opw X.wN rfl (X.move (v := .int .i64 _) rfl) ?_
    refine X.opP X.wN rfl rfl (X.lss rfl rfl) (fun h27 => ?_) (fun h27 => ?_)
    · refine X.opw X.wN rfl (X.move (v := .bool true) rfl) ?_
      refine X.opS rfl rfl rfl rfl rfl ?_
      refine X.opS rfl rfl rfl rfl rfl ?_
      refine X.opS rfl rfl rfl rfl rfl ?_
      refine X.opS rfl rfl rfl rfl rfl ?_
      refine X.opS rfl rfl rfl rfl rfl ?_
      refine X.opS rfl rfl rfl rfl rfl ?_
      refine X.opS rfl rfl rfl rfl rfl ?_
      refine X.opw X.wN rfl (X.pickT (v := .bool true) rfl rfl) ?_
      refine X.opsEnd ?_
      refine X.condT rfl ?_
      refine X.seq ?_
      refine X.region ?_
      refine X.opw X.wN rfl (X.assign rfl) ?_
      refine X.opsEnd ?_
      refine X.ret1 (v := (.int .i64 _)) Tryz.func30 Tryz.results30 rfl ?_
      have e : t.rot nm a mk = (5, t) := by simp only [RS.rot, if_neg h18, hfat, if_pos (show a < 0 ∨ (f.1.length : Int) ≤ a by omega)]
      rw [e]
      exact ⟨rfl, col, (h.keep hk1).r, Stp.keep hk1⟩
    · refine X.opw X.wN rfl (X.move (v := .bool false) rfl) ?_
      refine X.opw (X.wG rfl rfl rfl) rfl (X.move (v := .int .i64 _) rfl) ?_
      refine X.opw (X.wG rfl rfl rfl) rfl (X.move rfl) ?_
      refine X.opw (X.wG rfl rfl rfl) rfl (X.nilCk rfl) ?_
      refine X.opw (X.wG rfl rfl rfl) rfl (X.fldB (j := 0) Tryz.underlying110 rfl rfl Tryz.sizeOf31 rfl) ?_
      refine X.opw (X.wG rfl rfl rfl) rfl (X.load1B Tryz.isAgg31 (hfB.keep hk1) rfl rfl) ?_
      refine X.opw (X.wG rfl rfl rfl) rfl (X.lenSl Tryz.underlying31 rfl) ?_
      refine X.opP (X.wG rfl rfl rfl) rfl rfl (X.geq rfl rfl) (fun h35 => ?_) (fun h35 => ?_)
      · refine X.opw X.wN rfl (X.pickF (v := .bool true) rfl rfl) ?_
        refine X.opsEnd ?_
        refine X.condT rfl ?_
        refine X.seq ?_
        refine X.region ?_
        refine X.opw X.wN rfl (X.assign rfl) ?_
        refine X.opsEnd ?_
        refine X.ret1 (v := (.int .i64 _)) Tryz.func30 Tryz.results30 rfl ?_
        have e : t.rot nm a mk = (5, t) := by simp only [RS.rot, if_neg h18, hfat, if_pos (show a < 0 ∨ (f.1.length : Int) ≤ a by omega)]
        rw [e]
        exact ⟨rfl, col, (h.keep hk1).r, Stp.keep hk1⟩
      · obtain ⟨a', rfl⟩ : ∃ a' : Nat, a = (a' : Int) := ⟨a.toNat, by omega⟩
        obtain ⟨z1, hz1⟩ := rget a' (l := f.1) rfl (by omega)
        refine X.opw X.wN rfl (X.pickF (v := .bool false) rfl rfl) ?_
        refine X.opsEnd ?_
        refine X.condF rfl ?_
        refine X.skip ?_
        refine X.seq ?_
        refine X.regionD (fun _ => False) 14 (by kernel_rfl) (by kernel_rfl) (fun w2 hk2 hz2 => ?_)
        refine X.dTake 0 rfl (by kernel_rfl) (by kernel_rfl) (by kernel_rfl) (X.dwN rfl) (fun w' hk' => X.move rfl) ?_
        refine X.dTake 1 rfl (by kernel_rfl) (by kernel_rfl) (by kernel_rfl) (X.dwN rfl) (fun w' hk' => X.nilCk rfl) ?_
        refine X.dTake 2 rfl (by kernel_rfl) (by kernel_rfl) (by kernel_rfl) (X.dwN rfl) (fun w' hk' => X.fldB (j := 0) Tryz.underlying110 rfl rfl Tryz.sizeOf31 rfl) ?_
        refine X.dTake 3 rfl (by kernel_rfl) (by kernel_rfl) (by kernel_rfl) (X.dwN rfl) (fun w' hk' => X.load1B Tryz.isAgg31 (hfB.keep ((hk1.trans hk2).trans hk')) rfl rfl) ?_
        refine X.dTake 4 rfl (by kernel_rfl) (by kernel_rfl) (by kernel_rfl) (X.dwN rfl) (fun w' hk' => X.move (v := .int .i64 _) rfl) ?_
        refine X.dTake 5 rfl (by kernel_rfl) (by kernel_rfl) (by kernel_rfl) (X.dwN rfl) (fun w' hk' => X.move rfl) ?_
        refine X.dTake 6 rfl (by kernel_rfl) (by kernel_rfl) (by kernel_rfl) (X.dwN rfl) (fun w' hk' => X.nilCk rfl) ?_
        refine X.dTake 7 rfl (by kernel_rfl) (by kernel_rfl) (by kernel_rfl) (X.dwN rfl) (fun w' hk' => X.fldB (j := 0) Tryz.underlying110 rfl rfl Tryz.sizeOf31 rfl) ?_
        refine X.dTake 8 rfl (by kernel_rfl) (by kernel_rfl) (by kernel_rfl) (X.dwN rfl) (fun w' hk' => X.load1B Tryz.isAgg31 (hfB.keep ((hk1.trans hk2).trans hk')) rfl rfl) ?_
        refine X.dTake 9 rfl (by kernel_rfl) (by kernel_rfl) (by kernel_rfl) (X.dwN rfl) (fun w' hk' => X.move (v := .int .i64 _) rfl) ?_
        refine X.dTake 10 rfl (by kernel_rfl) (by kernel_rfl) (by kernel_rfl) (X.dwN rfl) (fun w' hk' => X.idxS (hf1.keep ((hk1.trans hk2).trans hk')) Tryz.underlying31 Tryz.sizeOf5 rfl rfl ⟨by omega, by omega⟩) ?_
        refine X.dTake 11 rfl (by kernel_rfl) (by kernel_rfl) (by kernel_rfl) (X.dwN rfl) (fun w' hk' => X.loadS Tryz.isAgg5 (hf1.keep ((hk1.trans hk2).trans hk')) hz1 rfl (fun _ h => by rw [h.1]; rfl)) ?_
        refine X.dTake 12 rfl (by kernel_rfl) (by kernel_rfl) (by kernel_rfl) (X.dwN rfl) (fun w' hk' => X.move (v := .int .u8 _) rfl) ?_
        refine X.dTake 13 rfl (by kernel_rfl) (by kernel_rfl) (by kernel_rfl) (X.dwN rfl) (fun w' hk' => X.xor_ rfl rfl (rxor8 z1 mk)) ?_
        refine X.dStep (i := 14) (by kernel_rfl) rfl (X.dwN rfl) (X.idxS (hf1.keep (hk1.trans hk2)) Tryz.underlying31 Tryz.sizeOf5 rfl rfl ⟨by omega, by omega⟩) (fun h => absurd h (by decide)) ?_
        refine X.dE (i := 15) (by kernel_rfl) rfl (X.dwN rfl) (X.storeM (y := z1 ^^^ mk) (j := a') Tryz.sizeOf5 ((hfl.M1.keep hk1).keep hk2) (by omega) rfl rfl) (fun _ _ _ h => absurd h (by decide)) ?_
        rintro _ w3 ⟨hxa1, xa1, hzxa1⟩
        refine X.dEnd (by kernel_rfl) ?_
        refine X.seq ?_
        refine X.seq ?_
        refine X.region ?_
        refine X.opw X.wN rfl (X.move (v := .int .i64 _) rfl) ?_
        refine X.opw X.wN rfl (X.move rfl) ?_
        refine X.opw X.wN rfl (X.nilCk rfl) ?_
        refine X.opw X.wN rfl (X.fldB (j := 1) Tryz.underlying110 rfl rfl Tryz.sizeOf31 rfl) ?_
        refine X.opw X.wN rfl (X.load1B Tryz.isAgg31 ((hfB.keep (hk1.trans hk2)).ext xa1 (by first | (intro q g1 g2 g3; first | (have g3 : q = _ := g3; omega) | (have g3 : _ ≤ q := g3; omega) | omega | (have g3 : _ ∨ _ := g3; rcases g3 with g3 | g3 <;> omega)) | (intro hh; first | (have hh : _ = _ := hh; omega) | (have hh : _ ≤ _ := hh; omega) | (have hh : _ ∨ _ := hh; rcases hh with hh | hh <;> first | omega | (have hq := hlt _ (fun e => absurd (hh.symm.trans e) (by decide)); omega))) | (intros; omega) | (intro q g1 g2; first | (have g2 : q = _ := g2; omega) | (have g2 : _ ≤ q := g2; omega)))) rfl rfl) ?_
        refine X.opw X.wN rfl (X.lenSl Tryz.underlying31 rfl) ?_
        refine X.opP X.wN rfl rfl (X.lss rfl rfl) (fun h58 => ?_) (fun h58 => ?_)
        · obtain ⟨z2, hz2⟩ := rget a' (l := f.2.1) rfl (by omega)
          refine X.opsEnd ?_
          refine X.condT rfl ?_
          refine X.regionD (fun _ => False) 14 (by kernel_rfl) (by kernel_rfl) (fun w4 hk4 hz4 => ?_)
          refine X.dTake 0 rfl (by kernel_rfl) (by kernel_rfl) (by kernel_rfl) (X.dwN rfl) (fun w' hk' => X.move rfl) ?_
          refine X.dTake 1 rfl (by kernel_rfl) (by kernel_rfl) (by kernel_rfl) (X.dwN rfl) (fun w' hk' => X.nilCk rfl) ?_
          refine X.dTake 2 rfl (by kernel_rfl) (by kernel_rfl) (by kernel_rfl) (X.dwN rfl) (fun w' hk' => X.fldB (j := 1) Tryz.underlying110 rfl rfl Tryz.sizeOf31 rfl) ?_
          refine X.dTake 3 rfl (by kernel_rfl) (by kernel_rfl) (by kernel_rfl) (X.dwN rfl) (fun w' hk' => X.load1B Tryz.isAgg31 (((hfB.keep (hk1.trans hk2)).ext xa1 (by first | (intro q g1 g2 g3; first | (have g3 : q = _ := g3; omega) | (have g3 : _ ≤ q := g3; omega) | omega | (have g3 : _ ∨ _ := g3; rcases g3 with g3 | g3 <;> omega)) | (intro hh; first | (have hh : _ = _ := hh; omega) | (have hh : _ ≤ _ := hh; omega) | (have hh : _ ∨ _ := hh; rcases hh with hh | hh <;> first | omega | (have hq := hlt _ (fun e => absurd (hh.symm.trans e) (by decide)); omega))) | (intros; omega) | (intro q g1 g2; first | (have g2 : q = _ := g2; omega) | (have g2 : _ ≤ q := g2; omega)))).keep (hk4.trans hk')) rfl rfl) ?_
          refine X.dTake 4 rfl (by kernel_rfl) (by kernel_rfl) (by kernel_rfl) (X.dwN rfl) (fun w' hk' => X.move (v := .int .i64 _) rfl) ?_
          refine X.dTake 5 rfl (by kernel_rfl) (by kernel_rfl) (by kernel_rfl) (X.dwN rfl) (fun w' hk' => X.move rfl) ?_
          refine X.dTake 6 rfl (by kernel_rfl) (by kernel_rfl) (by kernel_rfl) (X.dwN rfl) (fun w' hk' => X.nilCk rfl) ?_
          refine X.dTake 7 rfl (by kernel_rfl) (by kernel_rfl) (by kernel_rfl) (X.dwN rfl) (fun w' hk' => X.fldB (j := 1) Tryz.underlying110 rfl rfl Tryz.sizeOf31 rfl) ?_
          refine X.dTake 8 rfl (by kernel_rfl) (by kernel_rfl) (by kernel_rfl) (X.dwN rfl) (fun w' hk' => X.load1B Tryz.isAgg31 (((hfB.keep (hk1.trans hk2)).ext xa1 (by first | (intro q g1 g2 g3; first | (have g3 : q = _ := g3; omega) | (have g3 : _ ≤ q := g3; omega) | omega | (have g3 : _ ∨ _ := g3; rcases g3 with g3 | g3 <;> omega)) | (intro hh; first | (have hh : _ = _ := hh; omega) | (have hh : _ ≤ _ := hh; omega) | (have hh : _ ∨ _ := hh; rcases hh with hh | hh <;> first | omega | (have hq := hlt _ (fun e => absurd (hh.symm.trans e) (by decide)); omega))) | (intros; omega) | (intro q g1 g2; first | (have g2 : q = _ := g2; omega) | (have g2 : _ ≤ q := g2; omega)))).keep (hk4.trans hk')) rfl rfl) ?_
          refine X.dTake 9 rfl (by kernel_rfl) (by kernel_rfl) (by kernel_rfl) (X.dwN rfl) (fun w' hk' => X.move (v := .int .i64 _) rfl) ?_
          refine X.dTake 10 rfl (by kernel_rfl) (by kernel_rfl) (by kernel_rfl) (X.dwN rfl) (fun w' hk' => X.idxS ((m0 KB_flat ((((hfl.M2.keep hk1).keep hk2).ext xa1 (by intros; omega) (by intro q g1 g2; (try dsimp only at g1); (try dsimp only at g2); first | omega | (have g2 : q = _ := g2; subst g2; omega) | (subst g2; omega))).keep hk4)).keep hk') Tryz.underlying31 Tryz.sizeOf5 rfl rfl ⟨by omega, by omega⟩) ?_
          refine X.dTake 11 rfl (by kernel_rfl) (by kernel_rfl) (by kernel_rfl) (X.dwN rfl) (fun w' hk' => X.loadS Tryz.isAgg5 ((m0 KB_flat ((((hfl.M2.keep hk1).keep hk2).ext xa1 (by intros; omega) (by intro q g1 g2; (try dsimp only at g1); (try dsimp only at g2); first | omega | (have g2 : q = _ := g2; subst g2; omega) | (subst g2; omega))).keep hk4)).keep hk') hz2 rfl (fun _ h => by rw [h.1]; rfl)) ?_
          refine X.dTake 12 rfl (by kernel_rfl) (by kernel_rfl) (by kernel_rfl) (X.dwN rfl) (fun w' hk' => X.move (v := .int .u8 _) rfl) ?_
          refine X.dTake 13 rfl (by kernel_rfl) (by kernel_rfl) (by kernel_rfl) (X.dwN rfl) (fun w' hk' => X.xor_ rfl rfl (rxor8 z2 mk)) ?_
          refine X.dStep (i := 14) (by kernel_rfl) rfl (X.dwN rfl) (X.idxS (m0 KB_flat ((((hfl.M2.keep hk1).keep hk2).ext xa1 (by intros; omega) (by intro q g1 g2; (try dsimp only at g1); (try dsimp only at g2); first | omega | (have g2 : q = _ := g2; subst g2; omega) | (subst g2; omega))).keep hk4)) Tryz.underlying31 Tryz.sizeOf5 rfl rfl ⟨by omega, by omega⟩) (fun h => absurd h (by decide)) ?_
          refine X.dE (i := 15) (by kernel_rfl) rfl (X.dwN rfl) (X.storeM (y := z2 ^^^ mk) (j := a') Tryz.sizeOf5 ((((hfl.M2.keep hk1).keep hk2).ext xa1 (by intros; omega) (by intro q g1 g2; (try dsimp only at g1); (try dsimp only at g2); first | omega | (have g2 : q = _ := g2; subst g2; omega) | (subst g2; omega))).keep hk4) (by omega) rfl rfl) (fun _ _ _ h => absurd h (by decide)) ?_
          rintro _ w5 ⟨hxa2, xa2, hzxa2⟩
          refine X.dEnd (by kernel_rfl) ?_
          refine X.seq ?_
          refine X.region ?_
          refine X.opw X.wN rfl (X.assign rfl) ?_
          refine X.opsEnd ?_
          refine X.ret1 (v := (.int .i64 _)) Tryz.func30 Tryz.results30 rfl ?_
          have e1 := rrot_at (m := mk) hz1
          have e2 : rrot f.2.1 a' mk = _ := rrot_at hz2
          have hx : Ext (fun q => col q = 5 + 3 * (rfind nm t.dir).toNat ∨ col q = 6 + 3 * (rfind nm t.dir).toNat) w w5 := (Ext.andThen (Ext.andThen (Ext.andThen (Ext.andThen (Ext.andThen (Ext.refl (fun q => col q = 5 + 3 * (rfind nm t.dir).toNat ∨ col q = 6 + 3 * (rfind nm t.dir).toNat) _) hk1 (by intro q h1 h2; first | exact (h2 : False).elim | exact h2 | (have h2 : col q = _ := h2; show _ ∨ _; omega) | (have h2 : q = _ := h2; subst h2; omega) | (have h2 : _ ≤ q := h2; omega) | (have h2 : _ ≤ q ∧ _ := h2; omega) | (rcases h2 with h2 | h2 | h2 <;> first | omega | (subst h2; omega)) | (rcases h2 with h2 | h2 <;> first | omega | (subst h2; omega)))) hk2 (by intro q h1 h2; first | exact (h2 : False).elim | exact h2 | (have h2 : col q = _ := h2; show _ ∨ _; omega) | (have h2 : q = _ := h2; subst h2; omega) | (have h2 : _ ≤ q := h2; omega) | (have h2 : _ ≤ q ∧ _ := h2; omega) | (rcases h2 with h2 | h2 | h2 <;> first | omega | (subst h2; omega)) | (rcases h2 with h2 | h2 <;> first | omega | (subst h2; omega)))) xa1 (by intro q h1 h2; first | exact (h2 : False).elim | exact h2 | (have h2 : col q = _ := h2; show _ ∨ _; omega) | (have h2 : q = _ := h2; subst h2; omega) | (have h2 : _ ≤ q := h2; omega) | (have h2 : _ ≤ q ∧ _ := h2; omega) | (rcases h2 with h2 | h2 | h2 <;> first | omega | (subst h2; omega)) | (rcases h2 with h2 | h2 <;> first | omega | (subst h2; omega)))) hk4 (by intro q h1 h2; first | exact (h2 : False).elim | exact h2 | (have h2 : col q = _ := h2; show _ ∨ _; omega) | (have h2 : q = _ := h2; subst h2; omega) | (have h2 : _ ≤ q := h2; omega) | (have h2 : _ ≤ q ∧ _ := h2; omega) | (rcases h2 with h2 | h2 | h2 <;> first | omega | (subst h2; omega)) | (rcases h2 with h2 | h2 <;> first | omega | (subst h2; omega)))) xa2 (by intro q h1 h2; first | exact (h2 : False).elim | exact h2 | (have h2 : col q = _ := h2; show _ ∨ _; omega) | (have h2 : q = _ := h2; subst h2; omega) | (have h2 : _ ≤ q := h2; omega) | (have h2 : _ ≤ q ∧ _ := h2; omega) | (rcases h2 with h2 | h2 | h2 <;> first | omega | (subst h2; omega)) | (rcases h2 with h2 | h2 <;> first | omega | (subst h2; omega))))
          have hxs := hx.size
          obtain ⟨col', hcol⟩ : ∃ col', col' = rec' col w.heap.size w5.heap.size (3) := ⟨_, rfl⟩
          have hold : ∀ q, q < w.heap.size → col' q = col q := fun q hq => by rw [hcol]; exact rec_old hq
          have hnew : ∀ q, w.heap.size ≤ q → q < w5.heap.size → col' q = 3 := fun q h1 h2 => by rw [hcol]; exact rec_new h1 h2
          have hltc : ∀ q, col' q ≠ 0 → q < w5.heap.size := fun q hq => by rw [hcol] at hq; exact rec_lt hlt hxs hq
          have P := h.part (col' := col') (fun v => v = 5 + 3 * (rfind nm t.dir).toNat ∨ v = 6 + 3 * (rfind nm t.dir).toNat) hx hold (fun q hq ht => ht)
          have hst : Stp col w col' w5 := ⟨hold, hx.mono (fun q _ t => by (try simp only [] at t); omega)⟩
          have e : t.rot nm (a' : Int) mk = (0, { t with fs := t.fs.set (rfind nm t.dir).toNat (rrot f.1 a' mk, rrot f.2.1 a' mk, f.2.2) }) := by simp only [RS.rot, if_neg h18, hfat, Int.toNat_natCast, if_neg (show ¬ ((a' : Int) < 0 ∨ (f.1.length : Int) ≤ (a' : Int)) by omega)]
          rw [e]
          exact ⟨rfl, col', RkB.r (vF := .slice AF pt.length cF) (vD := .slice AD t.dir.length cD) (vX := vX) (vC := .slice AC t.chs.length cC) (pt := pt) ⟨P.B (by omega), P.F (by omega), P.D (by omega), P.X (by omega), P.C (by omega), P.cx, hltc, by rw [List.length_set]; exact h.pl, fun j q g h1 h2 => by
            by_cases hj : j = (rfind nm t.dir).toNat
            · subst hj
              rw [hpp] at h1
              have h2' : (t.fs.set (rfind nm t.dir).toNat (rrot f.1 a' mk, rrot f.2.1 a' mk, f.2.2))[(rfind nm t.dir).toNat]? = some g := h2
              rw [List.getElem?_set_self (List.getElem?_eq_some_iff.1 hff).1] at h2'
              cases h1; cases h2'
              exact ⟨_, _, _, ((((hfB.keep (hk1.trans hk2)).ext xa1 (by first | (intro q g1 g2 g3; first | (have g3 : q = _ := g3; omega) | (have g3 : _ ≤ q := g3; omega) | omega | (have g3 : _ ∨ _ := g3; rcases g3 with g3 | g3 <;> omega)) | (intro hh; first | (have hh : _ = _ := hh; omega) | (have hh : _ ≤ _ := hh; omega) | (have hh : _ ∨ _ := hh; rcases hh with hh | hh <;> first | omega | (have hq := hlt _ (fun e => absurd (hh.symm.trans e) (by decide)); omega))) | (intros; omega) | (intro q g1 g2; first | (have g2 : q = _ := g2; omega) | (have g2 : _ ≤ q := g2; omega)))).keep hk4).ext xa2 (by first | (intro q g1 g2 g3; first | (have g3 : q = _ := g3; omega) | (have g3 : _ ≤ q := g3; omega) | omega | (have g3 : _ ∨ _ := g3; rcases g3 with g3 | g3 <;> omega)) | (intro hh; first | (have hh : _ = _ := hh; omega) | (have hh : _ ≤ _ := hh; omega) | (have hh : _ ∨ _ := hh; rcases hh with hh | hh <;> first | omega | (have hq := hlt _ (fun e => absurd (hh.symm.trans e) (by decide)); omega))) | (intros; omega) | (intro q g1 g2; first | (have g2 : q = _ := g2; omega) | (have g2 : _ ≤ q := g2; omega)))), (hold _ hfpl).trans hfc, (by rw [e1]; exact (((hxa1.keep hk4).ext xa2 (by intros; omega) (by intro q g1 g2; (try dsimp only at g1); (try dsimp only at g2); first | omega | (have g2 : q = _ := g2; subst g2; omega) | (subst g2; omega)))).mono (fun q _ hS => by have hS : col q = _ := hS; show col' q = _; rw [hold q (hlt q (by omega))]; exact hS)), (by rw [e2]; exact (hxa2).mono (fun q _ hS => by have hS : col q = _ := hS; show col' q = _; rw [hold q (hlt q (by omega))]; exact hS)), colr hfl.M3 hx hold (fun q _ ht => by (try dsimp only at ht); omega)⟩
            · have h2' : (t.fs.set (rfind nm t.dir).toNat (rrot f.1 a' mk, rrot f.2.1 a' mk, f.2.2))[j]? = some g := h2
              rw [List.getElem?_set_ne (fun e => hj e.symm)] at h2'
              exact P.fl j q g h1 h2' (by omega) (fun v a1 a2 => by omega)⟩, hst⟩
        · refine X.opsEnd ?_
          refine X.condF rfl ?_
          refine X.skip ?_
          refine X.seq ?_
          refine X.region ?_
          refine X.opw X.wN rfl (X.assign rfl) ?_
          refine X.opsEnd ?_
          refine X.ret1 (v := (.int .i64 _)) Tryz.func30 Tryz.results30 rfl ?_
          have e1 := rrot_at (m := mk) hz1
          have e2 : rrot f.2.1 a' mk = _ := rrot_out (by omega)
          have hx : Ext (fun q => col q = 5 + 3 * (rfind nm t.dir).toNat ∨ col q = 6 + 3 * (rfind nm t.dir).toNat) w w3 := (Ext.andThen (Ext.andThen (Ext.andThen (Ext.refl (fun q => col q = 5 + 3 * (rfind nm t.dir).toNat ∨ col q = 6 + 3 * (rfind nm t.dir).toNat) _) hk1 (by intro q h1 h2; first | exact (h2 : False).elim | exact h2 | (have h2 : col q = _ := h2; show _ ∨ _; omega) | (have h2 : q = _ := h2; subst h2; omega) | (have h2 : _ ≤ q := h2; omega) | (have h2 : _ ≤ q ∧ _ := h2; omega) | (rcases h2 with h2 | h2 | h2 <;> first | omega | (subst h2; omega)) | (rcases h2 with h2 | h2 <;> first | omega | (subst h2; omega)))) hk2 (by intro q h1 h2; first | exact (h2 : False).elim | exact h2 | (have h2 : col q = _ := h2; show _ ∨ _; omega) | (have h2 : q = _ := h2; subst h2; omega) | (have h2 : _ ≤ q := h2; omega) | (have h2 : _ ≤ q ∧ _ := h2; omega) | (rcases h2 with h2 | h2 | h2 <;> first | omega | (subst h2; omega)) | (rcases h2 with h2 | h2 <;> first | omega | (subst h2; omega)))) xa1 (by intro q h1 h2; first | exact (h2 : False).elim | exact h2 | (have h2 : col q = _ := h2; show _ ∨ _; omega) | (have h2 : q = _ := h2; subst h2; omega) | (have h2 : _ ≤ q := h2; omega) | (have h2 : _ ≤ q ∧ _ := h2; omega) | (rcases h2 with h2 | h2 | h2 <;> first | omega | (subst h2; omega)) | (rcases h2 with h2 | h2 <;> first | omega | (subst h2; omega))))
          have hxs := hx.size
          obtain ⟨col', hcol⟩ : ∃ col', col' = rec' col w.heap.size w3.heap.size (3) := ⟨_, rfl⟩
          have hold : ∀ q, q < w.heap.size → col' q = col q := fun q hq => by rw [hcol]; exact rec_old hq
          have hnew : ∀ q, w.heap.size ≤ q → q < w3.heap.size → col' q = 3 := fun q h1 h2 => by rw [hcol]; exact rec_new h1 h2
          have hltc : ∀ q, col' q ≠ 0 → q < w3.heap.size := fun q hq => by rw [hcol] at hq; exact rec_lt hlt hxs hq
          have P := h.part (col' := col') (fun v => v = 5 + 3 * (rfind nm t.dir).toNat ∨ v = 6 + 3 * (rfind nm t.dir).toNat) hx hold (fun q hq ht => ht)
          have hst : Stp col w col' w3 := ⟨hold, hx.mono (fun q _ t => by (try simp only [] at t); omega)⟩
          have e : t.rot nm (a' : Int) mk = (0, { t with fs := t.fs.set (rfind nm t.dir).toNat (rrot f.1 a' mk, rrot f.2.1 a' mk, f.2.2) }) := by simp only [RS.rot, if_neg h18, hfat, Int.toNat_natCast, if_neg (show ¬ ((a' : Int) < 0 ∨ (f.1.length : Int) ≤ (a' : Int)) by omega)]
          rw [e]
          exact ⟨rfl, col', RkB.r (vF := .slice AF pt.length cF) (vD := .slice AD t.dir.length cD) (vX := vX) (vC := .slice AC t.chs.length cC) (pt := pt) ⟨P.B (by omega), P.F (by omega), P.D (by omega), P.X (by omega), P.C (by omega), P.cx, hltc, by rw [List.length_set]; exact h.pl, fun j q g h1 h2 => by
            by_cases hj : j = (rfind nm t.dir).toNat
            · subst hj
              rw [hpp] at h1
              have h2' : (t.fs.set (rfind nm t.dir).toNat (rrot f.1 a' mk, rrot f.2.1 a' mk, f.2.2))[(rfind nm t.dir).toNat]? = some g := h2
              rw [List.getElem?_set_self (List.getElem?_eq_some_iff.1 hff).1] at h2'
              cases h1; cases h2'
              exact ⟨_, _, _, ((hfB.keep (hk1.trans hk2)).ext xa1 (by first | (intro q g1 g2 g3; first | (have g3 : q = _ := g3; omega) | (have g3 : _ ≤ q := g3; omega) | omega | (have g3 : _ ∨ _ := g3; rcases g3 with g3 | g3 <;> omega)) | (intro hh; first | (have hh : _ = _ := hh; omega) | (have hh : _ ≤ _ := hh; omega) | (have hh : _ ∨ _ := hh; rcases hh with hh | hh <;> first | omega | (have hq := hlt _ (fun e => absurd (hh.symm.trans e) (by decide)); omega))) | (intros; omega) | (intro q g1 g2; first | (have g2 : q = _ := g2; omega) | (have g2 : _ ≤ q := g2; omega)))), (hold _ hfpl).trans hfc, (by rw [e1]; exact (hxa1).mono (fun q _ hS => by have hS : col q = _ := hS; show col' q = _; rw [hold q (hlt q (by omega))]; exact hS)), (by rw [e2]; exact ((((hfl.M2.keep hk1).keep hk2).ext xa1 (by intros; omega) (by intro q g1 g2; (try dsimp only at g1); (try dsimp only at g2); first | omega | (have g2 : q = _ := g2; subst g2; omega) | (subst g2; omega)))).mono (fun q _ hS => by have hS : col q = _ := hS; show col' q = _; rw [hold q (hlt q (by omega))]; exact hS)), colr hfl.M3 hx hold (fun q _ ht => by (try dsimp only at ht); omega)⟩
            · have h2' : (t.fs.set (rfind nm t.dir).toNat (rrot f.1 a' mk, rrot f.2.1 a' mk, f.2.2))[j]? = some g := h2
              rw [List.getElem?_set_ne (fun e => hj e.symm)] at h2'
              exact P.fl j q g h1 h2' (by omega) (fun v a1 a2 => by omega)⟩, hst⟩
end Go.Proofs.YtcdebnppbnmmgaaGreat

namespace Go.Proofs.YtcdebnppbnmmgaaGreat
open Go Go.Proofs.YtcdebnppbnmmgaaGreat.X
set_option linter.unusedVariables false
set_option linter.unusedSimpArgs false
def nfold (l : List Int) (vs : List Int) : List Int := vs.foldl (fun l v => lput v l) l
theorem nfold_snoc (l vs : List Int) (v : Int) : nfold l (vs ++ [v]) = lput v (nfold l vs) := by rw [nfold, List.foldl_append]; rfl
theorem nfold_len : ∀ (vs l : List Int), (nfold l vs).length ≤ l.length + vs.length
  | [], _ => Nat.le_refl _
  | v :: vs, l => by have := nfold_len vs (lput v l); have := lput_len v l; rw [nfold] at *; rw [List.foldl_cons, List.length_cons]; omega
def rnew (l : List CHG) : List Int := (l.filter fun c => decide (c.1 = ⟨#[]⟩)).map fun c => c.2.2
theorem rnew_len (l : List CHG) : (rnew l).length ≤ l.length := by rw [rnew, List.length_map]; exact List.length_filter_le _ _
theorem rnew_yes {l : List CHG} {c : CHG} (h : c.1 = ⟨#[]⟩) : rnew (l ++ [c]) = rnew l ++ [c.2.2] := by rw [rnew, List.filter_append, List.filter_cons_of_pos (by simpa using h), List.filter_nil, List.map_append]; rfl
theorem rnew_no {l : List CHG} {c : CHG} (h : ¬ c.1 = ⟨#[]⟩) : rnew (l ++ [c]) = rnew l := by rw [rnew, List.filter_append, List.filter_cons_of_neg (by simpa using h), List.filter_nil, List.append_nil]; rfl
def RS.near (t : RS) : List Int := nfold (nfold [] (t.fx.map (·.2))) (rnew t.chs)
set_option maxHeartbeats 4000000 in
set_option maxRecDepth 100000 in
theorem Rnear_c {col : Nat → Nat} {x : Nat} {vF vD vX vC : Value} {pt : List Nat} {t : RS} (w : World) (h : RkB col w x vF vD vX vC pt t) (hok : t.Ok) : Ret Tryz.prog 64 #[ptrV x] w fun r w' => Mine KI 3 (fun q => w.heap.size ≤ q) 0 0 w' r t.near ∧ Keep w w' := by
  obtain ⟨AD, cD, e, hcD, hsD⟩ := h.D.slF KEn_flat 0 (fun _ _ => Nat.zero_le _)
  subst e
  obtain ⟨AC, cC, e, hcC, hsC⟩ := h.C.slF KCh_flat 0 (fun _ _ => Nat.zero_le _)
  subst e
  obtain ⟨AF, cF, e, hcF, hsF⟩ := h.F.slF KRp_flat 0 (fun _ _ => Nat.zero_le _)
  subst e
  have hB := h.B
  have hxl := h.B.lt
  have hlt := h.lt
  have hcx := h.cx
  have hok1 := hok.few
  have hok2 := hok.many
  have hok3 := hok.left
  have hok4 := hok.fewx
  refine X.enter Tryz.func64 rfl Tryz.ntmps64 rfl ?_
  refine X.seq ?_
  refine X.region ?_
  refine X.opw X.wN rfl (X.assign rfl) ?_
  refine X.opsEnd ?_
  refine X.seq ?_
  refine X.region ?_
  refine X.opw X.wN rfl (X.assign rfl) ?_
  refine X.opsEnd ?_
  refine X.seq ?_
  refine X.seq ?_
  refine X.region ?_
  refine X.opw X.wN rfl (X.assign rfl) ?_
  refine X.opsEnd ?_
  refine X.block ?_
  obtain ⟨AX, cX, eX, hcX, hsX⟩ := h.X.slF KEn_flat 0 (fun _ _ => Nat.zero_le _)
  subst eX
  refine X.loopL (σ := Nat × Value) (fun s => [(0, ptrV x), (3, s.2), (4, .int .i64 (s.1 : Int))]) (fun s w' => s.1 ≤ t.fx.length ∧ Mine KI 3 (fun q => w.heap.size ≤ q) 0 0 w' s.2 (nfold [] ((t.fx.take s.1).map (·.2))) ∧ Keep w w') (fun s => t.fx.length - s.1) (0, _) ⟨rfl, rfl, rfl, trivial⟩ ⟨Nat.zero_le _, Mine.nil _ _ _ _ _ _, (Keep.refl _)⟩ ?_
  rintro ⟨i, v⟩ b0 wl ⟨hi, hMo, hk⟩ hback
  dsimp only
  simp only at hi hMo
  have hk' := hk.size
  obtain ⟨Av, cv, e, hcv, hsv⟩ := hMo.slF KI_flat w.heap.size (fun _ h => h)
  subst e
  have hnl := nfold_len ((t.fx.take i).map (·.2)) []
  rw [List.length_map, List.length_take, List.length_nil] at hnl
  refine X.seq ?_
  refine X.seq ?_
  refine X.region ?_
  refine X.opw X.wN rfl (X.move (v := .int .i64 _) rfl) ?_
  refine X.opw X.wN rfl (X.move rfl) ?_
  refine X.opw X.wN rfl (X.nilCk rfl) ?_
  refine X.opw X.wN rfl (X.fldB (j := 3) Tryz.underlying83 rfl rfl Tryz.sizeOf80 rfl) ?_
  refine X.opw X.wN rfl (X.load1B Tryz.isAgg80 (hB.keep hk) rfl rfl) ?_
  refine X.opw X.wN rfl (X.lenSl Tryz.underlying80 rfl) ?_
  refine X.opP X.wN rfl rfl (X.lss rfl rfl) (fun h12 => ?_) (fun h12 => ?_)
  · obtain ⟨en, hen⟩ := rget i (l := t.fx) rfl (by omega)
    have hed := hok.fx en (List.mem_of_getElem? hen)
    have hdr := rtake hen
    refine X.opsEnd ?_
    refine X.condT rfl ?_
    refine X.skip ?_
    refine X.seq ?_
    refine X.block ?_
    refine X.region ?_
    refine X.opw X.wN rfl (X.move rfl) ?_
    refine X.opw X.wN rfl (X.move rfl) ?_
    refine X.opw X.wN rfl (X.nilCk rfl) ?_
    refine X.opw X.wN rfl (X.fldB (j := 3) Tryz.underlying83 rfl rfl Tryz.sizeOf80 rfl) ?_
    refine X.opw X.wN rfl (X.load1B Tryz.isAgg80 (hB.keep hk) rfl rfl) ?_
    refine X.opw X.wN rfl (X.move (v := .int .i64 _) rfl) ?_
    refine X.opw X.wN rfl (X.idxS (hsX.keep hk) Tryz.underlying80 Tryz.sizeOf121 rfl rfl ⟨by omega, by omega⟩) ?_
    refine X.opw X.wN rfl (X.fldA Tryz.underlying121 rfl rfl Tryz.sizeOf3) ?_
    refine X.opw X.wN rfl (X.loadSf Tryz.isAgg3 (hsX.keep hk) hen rfl (fun _ h => by rw [h.1]; rfl)) ?_
    refine X.opE X.wN rfl (X.callE (put_c en.2 _ hsv hcv (by omega) (by omega)) Tryz.call60 rfl rfl) ?_
    rintro vP w1 ⟨hP, hk1⟩
    have hk1' := hk1.size
    refine X.opw X.wN rfl (X.assign rfl) ?_
    refine X.opsEnd ?_
    refine X.inBlock ?_
    refine X.region ?_
    refine X.opw X.wN rfl (X.move (v := .int .i64 _) rfl) ?_
    refine X.opw X.wN rfl (X.add rfl rfl (X.w_i64 (by omega))) ?_
    refine X.opw X.wN rfl (X.assign (v := .int .i64 _) rfl) ?_
    refine X.opsEnd ?_
    refine hback (i + 1, vP) _ _ ⟨rfl, rfl, rfl, trivial⟩ ⟨by dsimp only; omega, by dsimp only; rw [hdr, List.map_append, List.map_singleton, nfold_snoc]; exact putM (S := fun q => w.heap.size ≤ q) hP (hMo.keep hk1) (fun _ h => h) (fun q h _ => by omega), (hk.trans hk1)⟩ (by dsimp only; omega)
  · refine X.opsEnd ?_
    refine X.condF rfl ?_
    refine X.exit rfl ?_
    refine X.seq ?_
    refine X.seq ?_
    refine X.region ?_
    refine X.opw X.wN rfl (X.assign rfl) ?_
    refine X.opsEnd ?_
    refine X.block ?_
    have he : t.fx.take i = t.fx := List.take_of_length_le (by omega)
    have hM0 : Mine KI 3 (fun q => w.heap.size ≤ q) 0 0 wl (.slice Av (nfold [] ((t.fx.take i).map (·.2))).length cv) (nfold [] (t.fx.map (·.2))) := Eq.mp (congrArg (fun z : DIR => Mine KI 3 (fun q => w.heap.size ≤ q) 0 0 wl (.slice Av (nfold [] ((t.fx.take i).map (·.2))).length cv) (nfold [] (z.map (·.2)))) he) hMo
    have hnl0 := nfold_len (t.fx.map (·.2)) []
    rw [List.length_map, List.length_nil] at hnl0
    refine X.loopL (σ := Nat × Value) (fun s => [(0, ptrV x), (3, s.2), (5, .int .i64 (s.1 : Int))]) (fun s w' => s.1 ≤ t.chs.length ∧ Mine KI 3 (fun q => w.heap.size ≤ q) 0 0 w' s.2 (nfold (nfold [] (t.fx.map (·.2))) (rnew (t.chs.take s.1))) ∧ Keep w w') (fun s => t.chs.length - s.1) (0, _) ⟨rfl, rfl, rfl, trivial⟩ ⟨Nat.zero_le _, hM0, hk⟩ ?_
    rintro ⟨i, v⟩ b0 wl ⟨hi, hMo, hk⟩ hback
    dsimp only
    simp only at hi hMo
    have hk' := hk.size
    obtain ⟨Av, cv, e, hcv, hsv⟩ := hMo.slF KI_flat w.heap.size (fun _ h => h)
    subst e
    have hnl := nfold_len (rnew (t.chs.take i)) (nfold [] (t.fx.map (·.2)))
    have hnr := rnew_len (t.chs.take i)
    rw [List.length_take] at hnr
    refine X.seq ?_
    refine X.seq ?_
    refine X.region ?_
    refine X.opw X.wN rfl (X.move (v := .int .i64 _) rfl) ?_
    refine X.opw X.wN rfl (X.move rfl) ?_
    refine X.opw X.wN rfl (X.nilCk rfl) ?_
    refine X.opw X.wN rfl (X.fldB (j := 4) Tryz.underlying83 rfl rfl Tryz.sizeOf81 rfl) ?_
    refine X.opw X.wN rfl (X.load1B Tryz.isAgg81 (hB.keep hk) rfl rfl) ?_
    refine X.opw X.wN rfl (X.lenSl Tryz.underlying81 rfl) ?_
    refine X.opP X.wN rfl rfl (X.lss rfl rfl) (fun h31 => ?_) (fun h31 => ?_)
    · obtain ⟨ec, hec⟩ := rget i (l := t.chs) rfl (by omega)
      have hdr := rtake hec
      refine X.opsEnd ?_
      refine X.condT rfl ?_
      refine X.skip ?_
      refine X.seq ?_
      refine X.block ?_
      refine X.seq ?_
      refine X.region ?_
      refine X.opw X.wN rfl (X.move rfl) ?_
      refine X.opw X.wN rfl (X.nilCk rfl) ?_
      refine X.opw X.wN rfl (X.fldB (j := 4) Tryz.underlying83 rfl rfl Tryz.sizeOf81 rfl) ?_
      refine X.opw X.wN rfl (X.load1B Tryz.isAgg81 (hB.keep hk) rfl rfl) ?_
      refine X.opw X.wN rfl (X.move (v := .int .i64 _) rfl) ?_
      refine X.opw X.wN rfl (X.idxS (hsC.keep hk) Tryz.underlying81 Tryz.sizeOf113 rfl rfl ⟨by omega, by omega⟩) ?_
      refine X.opw X.wN rfl (X.fldA Tryz.underlying113 rfl rfl Tryz.sizeOf9) ?_
      refine X.opw X.wN rfl (X.loadSf Tryz.isAgg9 (hsC.keep hk) hec rfl (fun _ h => by rw [h.1]; rfl)) ?_
      refine X.opP X.wN rfl rfl (X.eqD rfl rfl) (fun h42 => ?_) (fun h42 => ?_)
      · have hed := hok.chs ec (List.mem_of_getElem? hec) h42
        refine X.opsEnd ?_
        refine X.condT rfl ?_
        refine X.region ?_
        refine X.opw X.wN rfl (X.move rfl) ?_
        refine X.opw X.wN rfl (X.move rfl) ?_
        refine X.opw X.wN rfl (X.nilCk rfl) ?_
        refine X.opw X.wN rfl (X.fldB (j := 4) Tryz.underlying83 rfl rfl Tryz.sizeOf81 rfl) ?_
        refine X.opw X.wN rfl (X.load1B Tryz.isAgg81 (hB.keep hk) rfl rfl) ?_
        refine X.opw X.wN rfl (X.move (v := .int .i64 _) rfl) ?_
        refine X.opw X.wN rfl (X.idxS (hsC.keep hk) Tryz.underlying81 Tryz.sizeOf113 rfl rfl ⟨by omega, by omega⟩) ?_
        refine X.opw X.wN rfl (X.fldA Tryz.underlying113 rfl rfl Tryz.sizeOf3) ?_
        refine X.opw X.wN rfl (X.loadSf Tryz.isAgg3 (hsC.keep hk) hec rfl (fun _ h => by rw [h.1]; rfl)) ?_
        refine X.opE X.wN rfl (X.callE (put_c ec.2.2 _ hsv hcv (by omega) (by omega)) Tryz.call60 rfl rfl) ?_
        rintro vP w2 ⟨hP, hk2⟩
        have hk2' := hk2.size
        refine X.opw X.wN rfl (X.assign rfl) ?_
        refine X.opsEnd ?_
        refine X.inBlock ?_
        refine X.region ?_
        refine X.opw X.wN rfl (X.move (v := .int .i64 _) rfl) ?_
        refine X.opw X.wN rfl (X.add rfl rfl (X.w_i64 (by omega))) ?_
        refine X.opw X.wN rfl (X.assign (v := .int .i64 _) rfl) ?_
        refine X.opsEnd ?_
        refine hback (i + 1, vP) _ _ ⟨rfl, rfl, rfl, trivial⟩ ⟨by dsimp only; omega, by dsimp only; rw [hdr, rnew_yes h42, nfold_snoc]; exact putM (S := fun q => w.heap.size ≤ q) hP (hMo.keep hk2) (fun _ h => h) (fun q h _ => by omega), (hk.trans hk2)⟩ (by dsimp only; omega)
      · refine X.opsEnd ?_
        refine X.condF rfl ?_
        refine X.skip ?_
        refine X.inBlock ?_
        refine X.region ?_
        refine X.opw X.wN rfl (X.move (v := .int .i64 _) rfl) ?_
        refine X.opw X.wN rfl (X.add rfl rfl (X.w_i64 (by omega))) ?_
        refine X.opw X.wN rfl (X.assign (v := .int .i64 _) rfl) ?_
        refine X.opsEnd ?_
        refine hback (i + 1, _) _ _ ⟨rfl, rfl, rfl, trivial⟩ ⟨by dsimp only; omega, by dsimp only; rw [hdr, rnew_no h42]; exact hMo, hk⟩ (by dsimp only; omega)
    · refine X.opsEnd ?_
      refine X.condF rfl ?_
      refine X.exit rfl ?_
      refine X.seq ?_
      refine X.region ?_
      refine X.opw X.wN rfl (X.move rfl) ?_
      refine X.opw X.wN rfl (X.assign rfl) ?_
      refine X.opsEnd ?_
      refine X.ret1 Tryz.func64 Tryz.results64 rfl ?_
      have he2 : t.chs.take i = t.chs := List.take_of_length_le (by omega)
      have hMz := hMo
      rw [RS.near]
      exact ⟨Eq.mp (congrArg (fun z : List CHG => Mine KI 3 (fun q => w.heap.size ≤ q) 0 0 wl _ (nfold (nfold [] (t.fx.map (·.2))) (rnew z))) he2) hMz, hk⟩
end Go.Proofs.YtcdebnppbnmmgaaGreat

namespace Go.Proofs.YtcdebnppbnmmgaaGreat
open Go Go.Proofs.YtcdebnppbnmmgaaGreat.X
set_option linter.unusedVariables false
set_option linter.unusedSimpArgs false
def rls (t : RS) (l : List Int) : Nat := (l.map fun k => (rfat t k).2.2.length).sum
def rcn (t : RS) (l : List Int) : Nat := (l.map fun k => if (rfat t k).1.length ≠ (rfat t k).2.1.length then 1 else 0).sum
def RS.loose (t : RS) : Nat × Nat × Nat := (t.chs.length, rls t t.near, rcn t t.near)
theorem lput_mem {k x : Int} {l : List Int} (h : x ∈ lput k l) : x = k ∨ x ∈ l := by
  rw [lput] at h
  split at h
  · exact .inr h
  · rcases List.mem_append.1 h with h | h
    · rcases List.mem_append.1 h with h | h
      · exact .inr ((List.takeWhile_sublist _).subset h)
      · exact .inl (List.mem_singleton.1 h)
    · exact .inr ((List.dropWhile_sublist _).subset h)
theorem nfold_mem {x : Int} : ∀ {vs l : List Int}, x ∈ nfold l vs → x ∈ l ∨ x ∈ vs
  | [], _, h => .inl h
  | v :: vs, l, h => by
    rcases nfold_mem (vs := vs) (l := lput v l) h with h | h
    · rcases lput_mem h with h | h
      · exact .inr (by rw [h]; exact List.mem_cons_self)
      · exact .inl h
    · exact .inr (List.mem_cons_of_mem _ h)
theorem rnear_ok {t : RS} (hok : t.Ok) {k : Int} (h : k ∈ t.near) : 0 ≤ k ∧ k < t.fs.length := by
  rcases nfold_mem h with h | h
  · rcases nfold_mem h with h | h
    · cases h
    · obtain ⟨p, hp, rfl⟩ := List.mem_map.1 h
      exact hok.fx p hp
  · obtain ⟨c, hc, rfl⟩ := List.mem_map.1 h
    obtain ⟨h1, h2⟩ := List.mem_filter.1 hc
    exact hok.chs c h1 (by simpa using h2)
theorem rnear_len {t : RS} (hok : t.Ok) : t.near.length ≤ 50256 := by
  have h1 := nfold_len (rnew t.chs) (nfold [] (t.fx.map (·.2)))
  have h2 := nfold_len (t.fx.map (·.2)) []
  have h3 := rnew_len t.chs
  have h4 := hok.fewx
  have h5 := hok.many
  rw [List.length_map, List.length_nil] at h2
  rw [RS.near]; omega
theorem rls_le {t : RS} (hok : t.Ok) (l : List Int) : rls t l ≤ l.length * 16384 := by
  induction l with
  | nil => exact Nat.le_refl _
  | cons k l ih =>
    have h2 : (rfat t k).2.2.length ≤ 16384 := by
      rw [rfat, List.getD_eq_getElem?_getD]
      cases h : t.fs[k.toNat]? with
      | none => exact Nat.zero_le _
      | some f => exact (hok.fs f (List.mem_of_getElem? h)).2.2.1
    rw [rls, List.map_cons, List.sum_cons, List.length_cons]
    rw [rls] at ih
    omega
theorem rcn_le (t : RS) (l : List Int) : rcn t l ≤ l.length := by
  induction l with
  | nil => exact Nat.le_refl _
  | cons k l ih =>
    rw [rcn, List.map_cons, List.sum_cons, List.length_cons]
    rw [rcn] at ih
    split <;> omega
theorem rls_snoc (t : RS) (l : List Int) (k : Int) : rls t (l ++ [k]) = rls t l + (rfat t k).2.2.length := by rw [rls, List.map_append, List.sum_append]; simp [rls]
theorem rcn_snoc (t : RS) (l : List Int) (k : Int) : rcn t (l ++ [k]) = rcn t l + if (rfat t k).1.length ≠ (rfat t k).2.1.length then 1 else 0 := by rw [rcn, List.map_append, List.sum_append]; simp [rcn]
set_option maxHeartbeats 4000000 in
set_option maxRecDepth 100000 in
theorem RLoose_c {col : Nat → Nat} {x : Nat} {vF vD vX vC : Value} {pt : List Nat} {t : RS} (w : World) (h : RkB col w x vF vD vX vC pt t) (hok : t.Ok) : Ret Tryz.prog 41 #[ptrV x] w fun r w' => r = .tuple #[.int .i64 (t.loose.1 : Int), .int .i64 (t.loose.2.1 : Int), .int .i64 (t.loose.2.2 : Int)] ∧ Keep w w' := by
  obtain ⟨AD, cD, e, hcD, hsD⟩ := h.D.slF KEn_flat 0 (fun _ _ => Nat.zero_le _)
  subst e
  obtain ⟨AC, cC, e, hcC, hsC⟩ := h.C.slF KCh_flat 0 (fun _ _ => Nat.zero_le _)
  subst e
  obtain ⟨AF, cF, e, hcF, hsF⟩ := h.F.slF KRp_flat 0 (fun _ _ => Nat.zero_le _)
  subst e
  have hB := h.B
  have hxl := h.B.lt
  have hlt := h.lt
  have hcx := h.cx
  have hok1 := hok.few
  have hok2 := hok.many
  have hok3 := hok.left
  have hplx := h.pl
  refine X.enter Tryz.func41 rfl Tryz.ntmps41 rfl ?_
  refine X.seq ?_
  refine X.region ?_
  refine X.opw X.wN rfl (X.assign rfl) ?_
  refine X.opw X.wN rfl (X.assign rfl) ?_
  refine X.opw X.wN rfl (X.assign rfl) ?_
  refine X.opsEnd ?_
  refine X.seq ?_
  refine X.region ?_
  refine X.opw X.wN rfl (X.move rfl) ?_
  refine X.opE X.wN rfl (X.callE (Rnear_c _ (h.keep (Keep.refl _)) hok) Tryz.call64 rfl rfl) ?_
  rintro v5 w1 ⟨hN, hk1⟩
  have hk1' := hk1.size
  refine X.opw X.wN rfl (X.assign rfl) ?_
  refine X.opsEnd ?_
  refine X.seq ?_
  refine X.region ?_
  refine X.opw X.wN rfl (X.assign rfl) ?_
  refine X.opw X.wN rfl (X.assign rfl) ?_
  refine X.opsEnd ?_
  refine X.seq ?_
  refine X.seq ?_
  refine X.region ?_
  refine X.opw X.wN rfl (X.assign rfl) ?_
  refine X.opsEnd ?_
  refine X.block ?_
  obtain ⟨Av, cv, ev, hcv, hsv⟩ := hN.slF KI_flat w.heap.size (fun _ h => h)
  subst ev
  have hnl := rnear_len hok
  have hsv' := hsv
  refine X.loopL (σ := Nat) (fun s => [(0, ptrV x), (5, .slice Av t.near.length cv), (6, .int .i64 (rls t (t.near.take s) : Int)), (7, .int .i64 (rcn t (t.near.take s) : Int)), (8, .int .i64 (s : Int))]) (fun s w' => s ≤ t.near.length ∧ Keep w1 w') (fun s => t.near.length - s) 0 ⟨rfl, rfl, rfl, rfl, rfl, trivial⟩ ⟨Nat.zero_le _, Keep.refl _⟩ ?_
  rintro i b0 wl ⟨hi, hkl⟩ hback
  have hk := hk1.trans hkl
  have hk' := hk.size
  have hb1 := rls_le hok (t.near.take i)
  have hb2 := rcn_le t (t.near.take i)
  rw [List.length_take] at hb1 hb2
  refine X.seq ?_
  refine X.seq ?_
  refine X.region ?_
  refine X.opw X.wN rfl (X.move (v := .int .i64 _) rfl) ?_
  refine X.opw X.wN rfl (X.move rfl) ?_
  refine X.opw X.wN rfl (X.lenSl Tryz.underlying95 rfl) ?_
  refine X.opP X.wN rfl rfl (X.lss rfl rfl) (fun h15 => ?_) (fun h15 => ?_)
  · obtain ⟨kn, hkn⟩ := rget i (l := t.near) rfl (by omega)
    have hed := rnear_ok hok (List.mem_of_getElem? hkn)
    have hdr := rtake hkn
    obtain ⟨p, f, v1, v2, v3, hpp, hff, hfl⟩ := h.at_ hok hed
    have hfB := hfl.B
    have hfc := hfl.c
    have hfpl := hfB.lt
    have hfok := hok.fs f (List.mem_of_getElem? hff)
    have hfat := rfat_at hff
    obtain ⟨Af1, cf1, e, hcf1, hf1⟩ := hfl.M1.slF KB_flat 0 (fun _ _ => Nat.zero_le _)
    subst e
    obtain ⟨Af2, cf2, e, hcf2, hf2⟩ := hfl.M2.slF KB_flat 0 (fun _ _ => Nat.zero_le _)
    subst e
    obtain ⟨Af3, cf3, e, hcf3, hf3⟩ := hfl.M3.slF KI_flat 0 (fun _ _ => Nat.zero_le _)
    subst e
    have hs1 := rls_snoc t (t.near.take i) kn
    rw [← hdr, hfat] at hs1
    have hs2 := rcn_snoc t (t.near.take i) kn
    rw [← hdr, hfat] at hs2
    refine X.opsEnd ?_
    refine X.condT rfl ?_
    refine X.skip ?_
    refine X.seq ?_
    refine X.block ?_
    refine X.seq ?_
    refine X.regionD (fun _ => False) 10 (by kernel_rfl) (by kernel_rfl) (fun w2 hk2 hz2 => ?_)
    refine X.dTake 0 rfl (by kernel_rfl) (by kernel_rfl) (by kernel_rfl) (X.dwN rfl) (fun w' hk' => X.move rfl) ?_
    refine X.dTake 1 rfl (by kernel_rfl) (by kernel_rfl) (by kernel_rfl) (X.dwN rfl) (fun w' hk' => X.nilCk rfl) ?_
    refine X.dTake 2 rfl (by kernel_rfl) (by kernel_rfl) (by kernel_rfl) (X.dwN rfl) (fun w' hk' => X.fldB (j := 1) Tryz.underlying83 rfl rfl Tryz.sizeOf79 rfl) ?_
    refine X.dTake 3 rfl (by kernel_rfl) (by kernel_rfl) (by kernel_rfl) (X.dwN rfl) (fun w' hk' => X.load1B Tryz.isAgg79 (hB.keep (((hk1.trans hkl).trans hk2).trans hk')) rfl rfl) ?_
    refine X.dTake 4 rfl (by kernel_rfl) (by kernel_rfl) (by kernel_rfl) (X.dwN rfl) (fun w' hk' => X.move rfl) ?_
    refine X.dTake 5 rfl (by kernel_rfl) (by kernel_rfl) (by kernel_rfl) (X.dwN rfl) (fun w' hk' => X.move (v := .int .i64 _) rfl) ?_
    refine X.dTake 6 rfl (by kernel_rfl) (by kernel_rfl) (by kernel_rfl) (X.dwN rfl) (fun w' hk' => X.idxS ((hsv.keep hkl).keep (hk2.trans hk')) Tryz.underlying95 Tryz.sizeOf3 rfl rfl ⟨by omega, by omega⟩) ?_
    refine X.dTake 7 rfl (by kernel_rfl) (by kernel_rfl) (by kernel_rfl) (X.dwN rfl) (fun w' hk' => X.loadS Tryz.isAgg3 ((hsv.keep hkl).keep (hk2.trans hk')) hkn rfl (fun _ h => by rw [h.1]; rfl)) ?_
    refine X.dTake 8 rfl (by kernel_rfl) (by kernel_rfl) (by kernel_rfl) (X.dwN rfl) (fun w' hk' => X.idxS (hsF.keep (((hk1.trans hkl).trans hk2).trans hk')) Tryz.underlying79 Tryz.sizeOf108 rfl rfl ⟨by omega, by omega⟩) ?_
    refine X.dTake 9 rfl (by kernel_rfl) (by kernel_rfl) (by kernel_rfl) (X.dwN rfl) (fun w' hk' => X.loadS Tryz.isAgg108 (hsF.keep (((hk1.trans hkl).trans hk2).trans hk')) hpp rfl (fun _ h => by rw [h.1]; rfl)) ?_
    refine X.dStep (i := 10) (by kernel_rfl) rfl (X.dwN rfl) (X.assign rfl) (fun h => absurd h (by decide)) ?_
    refine X.dEnd (by kernel_rfl) ?_
    refine X.seq ?_
    refine X.region ?_
    refine X.opw X.wN rfl (X.move (v := .int .i64 _) rfl) ?_
    refine X.opw X.wN rfl (X.move rfl) ?_
    refine X.opw X.wN rfl (X.nilCk rfl) ?_
    refine X.opw X.wN rfl (X.fldB (j := 2) Tryz.underlying110 rfl rfl Tryz.sizeOf95 rfl) ?_
    refine X.opw X.wN rfl (X.load1B Tryz.isAgg95 (hfB.keep ((hk1.trans hkl).trans hk2)) rfl rfl) ?_
    refine X.opw X.wN rfl (X.lenSl Tryz.underlying95 rfl) ?_
    refine X.opw X.wN rfl (X.add (c := ((rls t (t.near.take (i + 1)) : Nat) : Int)) rfl rfl (by rw [hs1, Int.natCast_add]; exact X.w_i64 (by omega))) ?_
    refine X.opw X.wN rfl (X.assign (v := .int .i64 _) rfl) ?_
    refine X.opsEnd ?_
    refine X.seq ?_
    refine X.regionD (fun _ => False) 11 (by kernel_rfl) (by kernel_rfl) (fun w3 hk3 hz3 => ?_)
    refine X.dTake 0 rfl (by kernel_rfl) (by kernel_rfl) (by kernel_rfl) (X.dwN rfl) (fun w' hk' => X.move rfl) ?_
    refine X.dTake 1 rfl (by kernel_rfl) (by kernel_rfl) (by kernel_rfl) (X.dwN rfl) (fun w' hk' => X.nilCk rfl) ?_
    refine X.dTake 2 rfl (by kernel_rfl) (by kernel_rfl) (by kernel_rfl) (X.dwN rfl) (fun w' hk' => X.fldB (j := 0) Tryz.underlying110 rfl rfl Tryz.sizeOf31 rfl) ?_
    refine X.dTake 3 rfl (by kernel_rfl) (by kernel_rfl) (by kernel_rfl) (X.dwN rfl) (fun w' hk' => X.load1B Tryz.isAgg31 (hfB.keep ((((hk1.trans hkl).trans hk2).trans hk3).trans hk')) rfl rfl) ?_
    refine X.dTake 4 rfl (by kernel_rfl) (by kernel_rfl) (by kernel_rfl) (X.dwN rfl) (fun w' hk' => X.lenSl Tryz.underlying31 rfl) ?_
    refine X.dTake 5 rfl (by kernel_rfl) (by kernel_rfl) (by kernel_rfl) (X.dwN rfl) (fun w' hk' => X.move rfl) ?_
    refine X.dTake 6 rfl (by kernel_rfl) (by kernel_rfl) (by kernel_rfl) (X.dwN rfl) (fun w' hk' => X.nilCk rfl) ?_
    refine X.dTake 7 rfl (by kernel_rfl) (by kernel_rfl) (by kernel_rfl) (X.dwN rfl) (fun w' hk' => X.fldB (j := 1) Tryz.underlying110 rfl rfl Tryz.sizeOf31 rfl) ?_
    refine X.dTake 8 rfl (by kernel_rfl) (by kernel_rfl) (by kernel_rfl) (X.dwN rfl) (fun w' hk' => X.load1B Tryz.isAgg31 (hfB.keep ((((hk1.trans hkl).trans hk2).trans hk3).trans hk')) rfl rfl) ?_
    refine X.dTake 9 rfl (by kernel_rfl) (by kernel_rfl) (by kernel_rfl) (X.dwN rfl) (fun w' hk' => X.lenSl Tryz.underlying31 rfl) ?_
    refine X.dTake 10 rfl (by kernel_rfl) (by kernel_rfl) (by kernel_rfl) (X.dwN rfl) (fun w' hk' => X.neI rfl rfl) ?_
    refine X.dEnd (by kernel_rfl) ?_
    refine X.condB rfl (fun hc => ?_) (fun hc => ?_)
    · refine X.region ?_
      refine X.opw X.wN rfl (X.move (v := .int .i64 _) rfl) ?_
      refine X.opw X.wN rfl (X.add (c := ((rcn t (t.near.take (i + 1)) : Nat) : Int)) rfl rfl (by rw [hs2, if_pos (by have := of_decide_eq_true hc; omega)]; exact X.w_i64 (by omega))) ?_
      refine X.opw X.wN rfl (X.assign (v := .int .i64 _) rfl) ?_
      refine X.opsEnd ?_
      refine X.inBlock ?_
      refine X.region ?_
      refine X.opw X.wN rfl (X.move (v := .int .i64 _) rfl) ?_
      refine X.opw X.wN rfl (X.add rfl rfl (X.w_i64 (by omega))) ?_
      refine X.opw X.wN rfl (X.assign (v := .int .i64 _) rfl) ?_
      refine X.opsEnd ?_
      refine hback (i + 1) _ _ ⟨rfl, rfl, rfl, rfl, rfl, trivial⟩ ⟨by omega, (hkl.trans (hk2.trans hk3))⟩ (by omega)
    · refine X.skip ?_
      refine X.inBlock ?_
      refine X.region ?_
      refine X.opw X.wN rfl (X.move (v := .int .i64 _) rfl) ?_
      refine X.opw X.wN rfl (X.add rfl rfl (X.w_i64 (by omega))) ?_
      refine X.opw X.wN rfl (X.assign (v := .int .i64 _) rfl) ?_
      refine X.opsEnd ?_
      have hce : rcn t (t.near.take (i + 1)) = rcn t (t.near.take i) := by rw [hs2, if_neg (by have := of_decide_eq_false hc; omega)]; rfl
      rw [← hce]
      refine hback (i + 1) _ _ ⟨rfl, rfl, rfl, rfl, rfl, trivial⟩ ⟨by omega, (hkl.trans (hk2.trans hk3))⟩ (by omega)
  · refine X.opsEnd ?_
    refine X.condF rfl ?_
    refine X.exit rfl ?_
    refine X.seq ?_
    refine X.region ?_
    refine X.opw X.wN rfl (X.move rfl) ?_
    refine X.opw X.wN rfl (X.nilCk rfl) ?_
    refine X.opw X.wN rfl (X.fldB (j := 4) Tryz.underlying83 rfl rfl Tryz.sizeOf81 rfl) ?_
    refine X.opw X.wN rfl (X.load1B Tryz.isAgg81 (hB.keep (hk1.trans hkl)) rfl rfl) ?_
    refine X.opw X.wN rfl (X.lenSl Tryz.underlying81 rfl) ?_
    refine X.opw X.wN rfl (X.move (v := .int .i64 _) rfl) ?_
    refine X.opw X.wN rfl (X.move (v := .int .i64 _) rfl) ?_
    refine X.opw X.wN rfl (X.assign (v := .int .i64 _) rfl) ?_
    refine X.opw X.wN rfl (X.assign (v := .int .i64 _) rfl) ?_
    refine X.opw X.wN rfl (X.assign (v := .int .i64 _) rfl) ?_
    refine X.opsEnd ?_
    refine X.ret3 (v1 := (.int .i64 _)) (v2 := (.int .i64 _)) (v3 := (.int .i64 _)) Tryz.func41 Tryz.results41 rfl rfl rfl ?_
    exact ⟨by rw [List.take_of_length_le (by omega)]; rfl, (hk1.trans hkl)⟩
end Go.Proofs.YtcdebnppbnmmgaaGreat

namespace Go.Proofs.YtcdebnppbnmmgaaGreat
open Go Go.Proofs.YtcdebnppbnmmgaaGreat.X
set_option linter.unusedVariables false
set_option linter.unusedSimpArgs false
def flen (fs : List FILE) (k : Int) : Nat := (fs.getD k.toNat ([], [])).1.length
/-- How many sectors all files take. -/
def DS.used (s : DS) : Nat := costs (flen s.fs) s.dir
theorem DkB.at_ {col : Nat → Nat} {w : World} {b bf bd bx bl : Nat} {A : Option Addr} {n c : Nat} {pt : List Nat} {s : DS} (h : DkB col w b bf bd bx bl A n c pt s) {k : Int} (h0 : 0 ≤ k) (hk : k < s.fs.length) : ∃ p f A1 n1 c1 A2 n2 c2, asc k (fmapF 0 pt) = some (ptrV p) ∧ pt[k.toNat]? = some p ∧ s.fs[k.toNat]? = some f ∧ n1 = f.1.length ∧ n2 = f.2.length ∧ flen s.fs k = n1 ∧ col p = 7 + 3 * k.toNat ∧ Blk w p (fiL A1 n1 c1 A2 n2 c2) 87 ∧ Row KB 5 (fun q => col q = 8 + 3 * k.toNat) 0 0 w (.slice A1 n1 c1) f.1 ∧ Mine KB 5 (fun q => col q = 9 + 3 * k.toNat) 0 0 w (.slice A2 n2 c2) f.2 := by
  have hl : k.toNat < s.fs.length := by omega
  have hp : k.toNat < pt.length := by rw [h.pl]; exact hl
  obtain ⟨h1, A1, n1, c1, A2, n2, c2, h2, h3, h4⟩ := h.fl k.toNat _ _ (List.getElem?_eq_getElem hp) (List.getElem?_eq_getElem hl)
  refine ⟨_, _, A1, n1, c1, A2, n2, c2, ?_, List.getElem?_eq_getElem hp, List.getElem?_eq_getElem hl, h3.len.symm, h4.len.symm, ?_, h1, h2, h3, h4⟩
  · rw [fmapF_asc, if_pos (by omega)]
    rw [show (k - ((0 : Nat) : Int)).toNat = k.toNat by omega, List.getElem?_eq_getElem hp]; rfl
  · rw [← h3.len, flen, List.getD_eq_getElem?_getD, List.getElem?_eq_getElem hl]; rfl
theorem DS.Ok.len {s : DS} (h : s.Ok) {k : Int} {f : FILE} (hf : s.fs[k.toNat]? = some f) : f.1.length ≤ 1048576 ∧ f.2.length ≤ 1048576 := h.fs f (List.mem_of_getElem? hf)
theorem DS.Ok.flen {s : DS} (h : s.Ok) (k : Int) : flen s.fs k ≤ 1048576 := by
  rw [Go.Proofs.YtcdebnppbnmmgaaGreat.flen, List.getD_eq_getElem?_getD]
  cases hf : s.fs[k.toNat]? with
  | none => simp
  | some f => exact (h.len hf).1
theorem costs_le {sz : Int → Nat} {d : DIR} (h : ∀ k, sz k ≤ 1048576) : ∀ ds : List ByteArray, (ds.map (cost sz d)).sum ≤ ds.length * 16384
  | [] => by simp
  | a :: ds => by
    have := costs_le (d := d) h ds
    have h2 : cost sz d a ≤ 16384 := by have := h ((asc a d).getD 0); rw [cost]; omega
    simp only [List.map_cons, List.sum_cons, List.length_cons]; omega
theorem DS.Ok.used {s : DS} (h : s.Ok) : s.used ≤ 256 * 16384 := by
  have := costs_le (d := s.dir) h.flen (s.dir.map (·.1))
  have h2 := h.few
  rw [List.length_map] at this
  exact Nat.le_trans this (Nat.mul_le_mul_right _ h2)
set_option maxHeartbeats 4000000 in
set_option maxRecDepth 100000 in
theorem used_c {col : Nat → Nat} {b bf bd bx bl : Nat} {A : Option Addr} {n c : Nat} {pt : List Nat} {s0 : DS} (w : World) (h : DkB col w b bf bd bx bl A n c pt s0) (hok : s0.Ok) : Ret Tryz.prog 33 #[ptrV b] w fun r w' => r = .int .i64 (s0.used : Int) ∧ Keep w w' := by
  have hbd := h.G.lt
  have hbb := h.B.lt
  have hbf := h.F.lt
  refine X.enter Tryz.func33 rfl Tryz.ntmps33 rfl ?_
  refine X.seq ?_
  refine X.region ?_
  refine X.opw X.wN rfl (X.assign rfl) ?_
  refine X.opsEnd ?_
  refine X.seq ?_
  refine X.region ?_
  refine X.opw X.wN rfl (X.assign rfl) ?_
  refine X.opsEnd ?_
  refine X.seq ?_
  refine X.seq ?_
  refine X.region ?_
  refine X.opw X.wN rfl (X.move rfl) ?_
  refine X.opw X.wN rfl (X.nilCk rfl) ?_
  refine X.opw X.wN rfl (X.fldB (j := 3) Tryz.underlying71 rfl rfl Tryz.sizeOf67 rfl) ?_
  refine X.opw X.wN rfl (X.load1B Tryz.isAgg67 h.B rfl rfl) ?_
  refine X.opE X.wN rfl (X.rangeE (enc := (fun x : ByteArray => Value.string x)) Tryz.underlying67 h.G rfl) ?_
  rintro _ w1 ⟨rfl, hI1, hk1, hz1⟩
  refine X.opsEnd ?_
  refine X.block ?_
  refine X.loopL (σ := List ByteArray × Int) (fun s => [(0, ptrV b), (3, .int .i64 s.2), (10, .pointer (some ⟨w.heap.size, 0, none⟩))]) (fun s w' => It (fun x : ByteArray => Value.string x) w' w.heap.size bd (mv (fun v : Int => Value.int .i64 v) s0.dir) s.1 ∧ s.2 = (((s.1.map (cost (flen s0.fs) s0.dir)).sum : Nat) : Int) ∧ s.1.Nodup ∧ (∀ k, k ∈ s.1 → k ∈ s0.dir.map (·.1)) ∧ Keep w w') (fun s => s0.dir.length + 1 - s.1.length) ([], 0) ⟨rfl, rfl, rfl, trivial⟩ ⟨hI1, rfl, List.nodup_nil, fun _ h => (by simp at h), hk1⟩ ?_
  rintro ⟨ds, nn⟩ e w1 ⟨hI, hn, hnd, hin, hk⟩ hback
  dsimp only at hn hnd hin hI ⊢
  have hk' := hk.size
  have hle := costs_le (d := s0.dir) hok.flen ds
  have hdl := nodup_len hnd hin
  rw [List.length_map] at hdl
  have hfew := hok.few
  refine X.seq ?_
  refine X.region ?_
  refine X.opE X.wN rfl (X.nextE hI rfl) ?_
  rintro _ w2 (⟨rfl, hall2, rfl⟩ | ⟨p2, hp2, hpn2, rfl, hI2, hx2, hz2⟩)
  · 
    refine X.opw X.wN rfl (X.extr rfl rfl) ?_
    refine X.opsEnd ?_
    refine X.seq ?_
    refine X.condF rfl ?_
    refine X.exit rfl ?_
    refine X.seq ?_
    refine X.region ?_
    refine X.opw X.wN rfl (X.move (v := .int .i64 _) rfl) ?_
    refine X.opw X.wN rfl (X.assign (v := .int .i64 _) rfl) ?_
    refine X.opsEnd ?_
    refine X.ret1 (v := (.int .i64 _)) Tryz.func33 Tryz.results33 rfl ?_
    have hall : ∀ k, k ∈ s0.dir.map (·.1) → k ∈ ds := fun k hm => by
      obtain ⟨q, hq, rfl⟩ := List.mem_map.1 hm
      exact hall2 (q.1, .int .i64 q.2) (List.mem_map.2 ⟨q, hq, rfl⟩)
    have e0 := costs_of (sz := flen s0.fs) hok.nd hnd (fun k => ⟨hin k, hall k⟩)
    rw [DS.used, ← e0, ← hn]
    exact ⟨rfl, hk⟩
  · have hx2' := hx2.size
    obtain ⟨q, hq, rfl⟩ : ∃ q : ByteArray × Int, q ∈ s0.dir ∧ p2 = (q.1, Value.int .i64 q.2) := by
      obtain ⟨q, hq, e⟩ := List.mem_map.1 hp2
      exact ⟨q, hq, e.symm⟩
    obtain ⟨hq0, hq1, _⟩ := hok.dir q hq
    obtain ⟨fp, f, A1, n1, c1, A2, n2, c2, ha, _, hf, hn1, _, hfl, _, hBf, _, _⟩ := h.at_ hq0 hq1
    have hfn := (hok.len hf).1
    have hasc : asc q.1 s0.dir = some q.2 := asc_mem hok.nd hq
    refine X.opw X.wN rfl (X.extr rfl rfl) ?_
    refine X.opsEnd ?_
    refine X.seq ?_
    refine X.condT rfl ?_
    refine X.skip ?_
    refine X.block ?_
    refine X.seq ?_
    refine X.region ?_
    refine X.opw X.wN rfl (X.entryE hI2 hp2 rfl) ?_
    refine X.opw X.wN rfl (X.extr rfl rfl) ?_
    refine X.opw X.wN rfl (X.assign (v := .int .i64 _) rfl) ?_
    refine X.opsEnd ?_
    refine X.region ?_
    refine X.opw X.wN rfl (X.move (v := .int .i64 _) rfl) ?_
    refine X.opw X.wN rfl (X.move rfl) ?_
    refine X.opw X.wN rfl (X.nilCk rfl) ?_
    refine X.opw X.wN rfl (X.fldB (j := 1) Tryz.underlying71 rfl rfl Tryz.sizeOf66 rfl) ?_
    refine X.opw X.wN rfl (X.load1B Tryz.isAgg66 (h.B.keep (hk.step hx2 (by intros; (try simp only [] at *); omega))) rfl rfl) ?_
    refine X.opw X.wN rfl (X.move (v := .int .i64 _) rfl) ?_
    refine X.opw X.wN rfl (X.lookupAt Tryz.underlying66 (keyInt Tryz.underlying3) Tryz.zeroValue85 (((h.F.keep hk).ext hx2 (by intro hh; have hh : _ = w.heap.size := hh; omega))) ha rfl rfl) ?_
    refine X.opw X.wN rfl (X.nilCk rfl) ?_
    refine X.opw X.wN rfl (X.fldB (j := 0) Tryz.underlying87 rfl rfl Tryz.sizeOf31 rfl) ?_
    refine X.opw X.wN rfl (X.load1B Tryz.isAgg31 (hBf.keep (hk.step hx2 (by intros; (try simp only [] at *); omega))) rfl rfl) ?_
    refine X.opw X.wN rfl (X.lenSl Tryz.underlying31 rfl) ?_
    refine X.opE X.wN rfl (X.callE (sectors_c _ _ (by omega)) Tryz.call48 rfl rfl) ?_
    rintro _ w3 ⟨rfl, hk3⟩
    have hk3' := hk3.size
    refine X.opw X.wN rfl (X.add rfl rfl (X.w_i64 (by omega))) ?_
    refine X.opw X.wN rfl (X.assign (v := .int .i64 _) rfl) ?_
    refine X.opsEnd ?_
    refine X.inBlock ?_
    refine hback (q.1 :: ds, _) _ _ ⟨rfl, rfl, rfl, trivial⟩ ⟨(hI2.keep hk3), ?_, List.nodup_cons.2 ⟨hpn2, hnd⟩, ?_, ((hk.step hx2 (by intros; (try simp only [] at *); omega)).trans hk3)⟩ ?_
    · show _ = ((((q.1 :: ds).map (cost (flen s0.fs) s0.dir)).sum : Nat) : Int)
      rw [List.map_cons, List.sum_cons, cost, hasc, Option.getD_some, hfl, hn]
      omega
    · intro k hk1
      rcases List.mem_cons.1 hk1 with rfl | hk1
      · exact List.mem_map.2 ⟨q, hq, rfl⟩
      · exact hin k hk1
    · have hnd2 : (q.1 :: ds).Nodup := List.nodup_cons.2 ⟨hpn2, hnd⟩
      have := nodup_len (ks := s0.dir.map (·.1)) hnd2 (fun k hk1 => by
        rcases List.mem_cons.1 hk1 with rfl | hk1
        · exact List.mem_map.2 ⟨q, hq, rfl⟩
        · exact hin k hk1)
      simp only [List.length_map, List.length_cons] at this ⊢
      omega
end Go.Proofs.YtcdebnppbnmmgaaGreat

namespace Go.Proofs.YtcdebnppbnmmgaaGreat
open Go Go.Proofs.YtcdebnppbnmmgaaGreat.X
set_option linter.unusedVariables false
set_option linter.unusedSimpArgs false
def DS.create (nm : ByteArray) (s : DS) : Int × DS :=
  if s.down = true then (54, s) else if rightN nm = false then (51, s) else if (asc nm s.dir).isSome = true then (50, s) else if 256 ≤ s.dir.length then (3, s)
  else (0, (({ s with fs := s.fs ++ [([], [])] } : DS).note (⟨#[]⟩, nm, (s.fs.length : Int))).did)
set_option maxHeartbeats 4000000 in
set_option maxRecDepth 100000 in
theorem Create_c {col : Nat → Nat} {b bf bd bx bl : Nat} {A : Option Addr} {n c : Nat} {pt : List Nat} {s0 : DS} (nm : ByteArray) (w : World) (h : DkB col w b bf bd bx bl A n c pt s0) (hok : s0.Ok) (hnm : nm.size ≤ 9223372036854775807) (hsz : s0.size ≤ 100000) : Ret Tryz.prog 12 #[ptrV b, .string nm] w fun r w' => r = .int .i64 (s0.create nm).1 ∧ ∃ col', DkR col' w' b (s0.create nm).2 ∧ Stp col w col' w' := by
  have hbl := h.B.lt
  have hfl := h.F.lt
  have hdl := h.G.lt
  have hxl := h.X.lt
  have hll := h.L.lt
  have hcb := h.cb
  have hcf := h.cf
  have hcd := h.cd
  have hcx := h.cx
  have hcl := h.cl
  obtain ⟨z1, z2, z3, z4, z5, z6, z7, z8, z9, z10⟩ := h.ne
  have hlt := h.lt
  have hok1 := hok.lf
  have hok2 := hok.few
  rw [DS.size] at hsz
  refine X.enter Tryz.func12 rfl Tryz.ntmps12 rfl ?_
  refine X.seq ?_
  refine X.region ?_
  refine X.opw X.wN rfl (X.assign rfl) ?_
  refine X.opsEnd ?_
  refine X.seq ?_
  refine X.seq ?_
  refine X.region ?_
  refine X.opw X.wN rfl (X.move rfl) ?_
  refine X.opE X.wN rfl (X.callE (may_c _ h.B) Tryz.call43 rfl rfl) ?_
  rintro _ w1 ⟨rfl, hk1⟩
  have hk1' := hk1.size
  refine X.opw X.wN rfl (X.assign (v := .int .i64 _) rfl) ?_
  refine X.opsEnd ?_
  refine X.seq ?_
  refine X.region ?_
  refine X.opw X.wN rfl (X.move (v := .int .i64 _) rfl) ?_
  refine X.opP X.wN rfl rfl (X.neI rfl rfl) (fun h11 => ?_) (fun h11 => ?_)
  · have hd : (s0.fu && decide (s0.lf ≤ 0)) = true := by
      cases hq : (s0.fu && decide (s0.lf ≤ 0)) with
      | true => rfl
      | false => rw [hq] at h11; simp at h11
    have hD : s0.down = true := hd
    refine X.opsEnd ?_
    refine X.condT rfl ?_
    refine X.seq ?_
    refine X.region ?_
    refine X.opw X.wN rfl (X.move (v := .int .i64 _) rfl) ?_
    refine X.opw X.wN rfl (X.assign (v := .int .i64 _) rfl) ?_
    refine X.opsEnd ?_
    refine X.ret1 (v := (.int .i64 _)) Tryz.func12 Tryz.results12 rfl ?_
    have e : s0.create nm = (54, s0) := by simp only [DS.create, if_pos hD]
    rw [e]
    exact ⟨by rw [if_pos hd], col, (h.keep hk1).r, Stp.keep hk1⟩
  · have hd : ¬ (s0.fu && decide (s0.lf ≤ 0)) = true := by
      cases hq : (s0.fu && decide (s0.lf ≤ 0)) with
      | false => simp
      | true => rw [hq] at h11; simp at h11
    have hD : ¬ s0.down = true := hd
    refine X.opsEnd ?_
    refine X.condF rfl ?_
    refine X.skip ?_
    refine X.seq ?_
    refine X.seq ?_
    refine X.region ?_
    refine X.opw X.wN rfl (X.move (v := .string _) rfl) ?_
    refine X.opE X.wN rfl (X.callE (right_c nm _ hnm) Tryz.call44 rfl rfl) ?_
    rintro _ w2 ⟨rfl, hk2⟩
    have hk2' := hk2.size
    refine X.opw X.wN rfl (X.not_ rfl) ?_
    refine X.opsEnd ?_
    refine X.condB rfl (fun hr0 => ?_) (fun hr0 => ?_)
    · have hr : rightN nm = false := by
        rw [rightN]
        cases hq : decide (nm ≠ ⟨#[]⟩ ∧ nm.size ≤ 64) with
        | false => rfl
        | true => rw [hq] at hr0; simp at hr0
      refine X.seq ?_
      refine X.region ?_
      refine X.opw X.wN rfl (X.assign rfl) ?_
      refine X.opsEnd ?_
      refine X.ret1 (v := (.int .i64 _)) Tryz.func12 Tryz.results12 rfl ?_
      have e : s0.create nm = (51, s0) := by simp only [DS.create, if_neg hD, if_pos hr]
      rw [e]
      exact ⟨rfl, col, (h.keep (hk1.trans hk2)).r, Stp.keep (hk1.trans hk2)⟩
    · have hr : ¬ rightN nm = false := by
        rw [rightN]
        cases hq : decide (nm ≠ ⟨#[]⟩ ∧ nm.size ≤ 64) with
        | true => simp
        | false => rw [hq] at hr0; simp at hr0
      refine X.skip ?_
      refine X.seq ?_
      refine X.seq ?_
      refine X.region ?_
      refine X.opw X.wN rfl (X.move rfl) ?_
      refine X.opw X.wN rfl (X.nilCk rfl) ?_
      refine X.opw X.wN rfl (X.fldB (j := 3) Tryz.underlying71 rfl rfl Tryz.sizeOf67 rfl) ?_
      refine X.opw X.wN rfl (X.load1B Tryz.isAgg67 (h.B.keep (hk1.trans hk2)) rfl rfl) ?_
      refine X.opw X.wN rfl (X.move (v := .string _) rfl) ?_
      refine X.opw X.wN rfl (X.lookupOkV (enc := (fun x : ByteArray => Value.string x)) (venc := (fun v : Int => Value.int .i64 v)) (z := 0) Tryz.underlying67 (keyStr Tryz.underlying9) Tryz.zeroValue3 (h.G.keep (hk1.trans hk2)) rfl rfl) ?_
      refine X.opw X.wN rfl (X.move rfl) ?_
      refine X.opw X.wN rfl (X.extr rfl rfl) ?_
      refine X.opw X.wN rfl (X.extr rfl rfl) ?_
      refine X.opw X.wN rfl (X.assign (v := .int .i64 _) rfl) ?_
      refine X.opw X.wN rfl (X.assign (v := .bool _) rfl) ?_
      refine X.opsEnd ?_
      refine X.seq ?_
      refine X.region ?_
      refine X.opw X.wN rfl (X.move (v := .bool _) rfl) ?_
      refine X.opsEnd ?_
      refine X.condB rfl (fun hth => ?_) (fun hth => ?_)
      · refine X.seq ?_
        refine X.region ?_
        refine X.opw X.wN rfl (X.assign rfl) ?_
        refine X.opsEnd ?_
        refine X.ret1 (v := (.int .i64 _)) Tryz.func12 Tryz.results12 rfl ?_
        have e : s0.create nm = (50, s0) := by simp only [DS.create, if_neg hD, if_neg hr, if_pos hth]
        rw [e]
        exact ⟨rfl, col, (h.keep (hk1.trans hk2)).r, Stp.keep (hk1.trans hk2)⟩
      · have hth : ¬ (asc nm s0.dir).isSome = true := by rw [hth]; decide
        refine X.skip ?_
        refine X.seq ?_
        refine X.seq ?_
        refine X.region ?_
        refine X.opw X.wN rfl (X.move rfl) ?_
        refine X.opw X.wN rfl (X.nilCk rfl) ?_
        refine X.opw X.wN rfl (X.fldB (j := 3) Tryz.underlying71 rfl rfl Tryz.sizeOf67 rfl) ?_
        refine X.opw X.wN rfl (X.load1B Tryz.isAgg67 (h.B.keep (hk1.trans hk2)) rfl rfl) ?_
        refine X.opw X.wN rfl (X.lenV Tryz.underlying67 (h.G.keep (hk1.trans hk2)) rfl) ?_
        refine X.opP X.wN rfl rfl (X.geq rfl rfl) (fun h31 => ?_) (fun h31 => ?_)
        · refine X.opsEnd ?_
          refine X.condT rfl ?_
          refine X.seq ?_
          refine X.region ?_
          refine X.opw X.wN rfl (X.assign rfl) ?_
          refine X.opsEnd ?_
          refine X.ret1 (v := (.int .i64 _)) Tryz.func12 Tryz.results12 rfl ?_
          have e : s0.create nm = (3, s0) := by simp only [DS.create, if_neg hD, if_neg hr, if_neg hth, if_pos (show 256 ≤ s0.dir.length by omega)]
          rw [e]
          exact ⟨rfl, col, (h.keep (hk1.trans hk2)).r, Stp.keep (hk1.trans hk2)⟩
        · refine X.opsEnd ?_
          refine X.condF rfl ?_
          refine X.skip ?_
          refine X.seq ?_
          refine X.regionD (fun k => w.heap.size ≤ k) 10 (by kernel_rfl) (by kernel_rfl) (fun w3 hk3 hz3 => ?_)
          refine X.dTake 0 rfl (by kernel_rfl) (by kernel_rfl) (by kernel_rfl) (X.dwN rfl) (fun w' hk' => X.move rfl) ?_
          refine X.dTake 1 rfl (by kernel_rfl) (by kernel_rfl) (by kernel_rfl) (X.dwN rfl) (fun w' hk' => X.nilCk rfl) ?_
          refine X.dTake 2 rfl (by kernel_rfl) (by kernel_rfl) (by kernel_rfl) (X.dwN rfl) (fun w' hk' => X.fldB (j := 1) Tryz.underlying71 rfl rfl Tryz.sizeOf66 rfl) ?_
          refine X.dTake 3 rfl (by kernel_rfl) (by kernel_rfl) (by kernel_rfl) (X.dwN rfl) (fun w' hk' => X.load1B Tryz.isAgg66 ((h.B.keep ((hk1.trans hk2).trans hk3)).ext hk' (by first | (intros; (try simp only [] at *); omega) | (intro hh; (try simp only [] at hh); omega) | (intro q h1 h2; (try simp only [] at h1 h2); have := hlt q (by omega); omega) | (intro hh; have hh : _ = _ := hh; subst hh; omega) | (intro q h1 h2; have h2 : q = _ := h2; subst h2; (try simp only [] at h1); omega) | (intro q h1 h2; (try simp only [] at h1 h2); omega) | (intro q h1 h2; have h2 : q = _ := h2; have := hlt q (by (try simp only [] at h1); omega); omega) | (intro q h1 h2; (try simp only [] at h1 h2); rcases h2 with h2 | h2 | h2 <;> first | omega | (subst h2; omega)) | (intro q h1 h2; (try simp only [] at h1 h2); rcases h2 with h2 | h2 | h2 | h2 <;> first | omega | (subst h2; omega)))) rfl rfl) ?_
          refine X.dTake 4 rfl (by kernel_rfl) (by kernel_rfl) (by kernel_rfl) (X.dwN rfl) (fun w' hk' => X.move rfl) ?_
          refine X.dTake 5 rfl (by kernel_rfl) (by kernel_rfl) (by kernel_rfl) (X.dwN rfl) (fun w' hk' => X.nilCk rfl) ?_
          refine X.dTake 6 rfl (by kernel_rfl) (by kernel_rfl) (by kernel_rfl) (X.dwN rfl) (fun w' hk' => X.fldB (j := 2) Tryz.underlying71 rfl rfl Tryz.sizeOf3 rfl) ?_
          refine X.dTake 7 rfl (by kernel_rfl) (by kernel_rfl) (by kernel_rfl) (X.dwN rfl) (fun w' hk' => X.load1B Tryz.isAgg3 ((h.B.keep ((hk1.trans hk2).trans hk3)).ext hk' (by first | (intros; (try simp only [] at *); omega) | (intro hh; (try simp only [] at hh); omega) | (intro q h1 h2; (try simp only [] at h1 h2); have := hlt q (by omega); omega) | (intro hh; have hh : _ = _ := hh; subst hh; omega) | (intro q h1 h2; have h2 : q = _ := h2; subst h2; (try simp only [] at h1); omega) | (intro q h1 h2; (try simp only [] at h1 h2); omega) | (intro q h1 h2; have h2 : q = _ := h2; have := hlt q (by (try simp only [] at h1); omega); omega) | (intro q h1 h2; (try simp only [] at h1 h2); rcases h2 with h2 | h2 | h2 <;> first | omega | (subst h2; omega)) | (intro q h1 h2; (try simp only [] at h1 h2); rcases h2 with h2 | h2 | h2 | h2 <;> first | omega | (subst h2; omega)))) rfl rfl) ?_
          refine X.dTake 8 rfl (by kernel_rfl) (by kernel_rfl) (by kernel_rfl) (X.dwN rfl) (fun w' hk' => X.buildB (vs := []) (cs := #[.slice none 0 0, .slice none 0 0]) rfl (by kernel_rfl)) ?_
          refine X.dE (i := 9) (by kernel_rfl) rfl (X.dwN rfl) (X.boxE rfl rfl) (by rintro _ w4 ⟨rfl, hB4, hk4, hz4⟩ _; exact hk4.mono (fun _ _ h => h.elim)) ?_
          rintro _ w4 ⟨rfl, hB4, hk4, hz4⟩
          refine X.dE (i := 10) (by kernel_rfl) rfl (X.dwN rfl) (X.updateV (enc := fun x : Int => Value.int .i64 x) (venc := fun v : Value => v) (a := (s0.fs.length : Int)) (v := ptrV w3.heap.size) Tryz.underlying66 (keyInt Tryz.underlying3) ((((h.F.keep hk1).keep hk2).keep hk3).keep hk4) rfl rfl rfl) (fun _ _ _ h => absurd h (by decide)) ?_
          rintro _ w5 ⟨hG5, hx5, hz5⟩
          refine X.dEnd (by kernel_rfl) ?_
          refine X.seq ?_
          refine X.region ?_
          refine X.opw X.wN rfl (X.move rfl) ?_
          refine X.opw X.wN rfl (X.move (v := .string _) rfl) ?_
          refine X.opw X.wN rfl (X.move rfl) ?_
          refine X.opw X.wN rfl (X.nilCk rfl) ?_
          refine X.opw X.wN rfl (X.fldB (j := 2) Tryz.underlying71 rfl rfl Tryz.sizeOf3 rfl) ?_
          refine X.opw X.wN rfl (X.load1B Tryz.isAgg3 ((h.B.keep (((hk1.trans hk2).trans hk3).trans hk4)).ext hx5 (by first | (intros; (try simp only [] at *); omega) | (intro hh; (try simp only [] at hh); omega) | (intro q h1 h2; (try simp only [] at h1 h2); have := hlt q (by omega); omega) | (intro hh; have hh : _ = _ := hh; subst hh; omega) | (intro q h1 h2; have h2 : q = _ := h2; subst h2; (try simp only [] at h1); omega) | (intro q h1 h2; (try simp only [] at h1 h2); omega) | (intro q h1 h2; have h2 : q = _ := h2; have := hlt q (by (try simp only [] at h1); omega); omega) | (intro q h1 h2; (try simp only [] at h1 h2); rcases h2 with h2 | h2 | h2 <;> first | omega | (subst h2; omega)) | (intro q h1 h2; (try simp only [] at h1 h2); rcases h2 with h2 | h2 | h2 | h2 <;> first | omega | (subst h2; omega)))) rfl rfl) ?_
          refine X.opw X.wN rfl (X.buildB (vs := [(1, .string nm), (2, .int .i64 (s0.fs.length : Int))]) (cs := #[.string ⟨#[]⟩, .string nm, .int .i64 (s0.fs.length : Int)]) rfl (by kernel_rfl)) ?_
          refine X.opE X.wN rfl (X.callE (note_c (S := fun q => col q = 6) (⟨#[]⟩, nm, (s0.fs.length : Int)) _ ((h.B.keep (((hk1.trans hk2).trans hk3).trans hk4)).ext hx5 (by first | (intros; (try simp only [] at *); omega) | (intro hh; (try simp only [] at hh); omega) | (intro q h1 h2; (try simp only [] at h1 h2); have := hlt q (by omega); omega) | (intro hh; have hh : _ = _ := hh; subst hh; omega) | (intro q h1 h2; have h2 : q = _ := h2; subst h2; (try simp only [] at h1); omega) | (intro q h1 h2; (try simp only [] at h1 h2); omega) | (intro q h1 h2; have h2 : q = _ := h2; have := hlt q (by (try simp only [] at h1); omega); omega) | (intro q h1 h2; (try simp only [] at h1 h2); rcases h2 with h2 | h2 | h2 <;> first | omega | (subst h2; omega)) | (intro q h1 h2; (try simp only [] at h1 h2); rcases h2 with h2 | h2 | h2 | h2 <;> first | omega | (subst h2; omega)))) (((((h.G.keep hk1).keep hk2).keep hk3).keep hk4).ext hx5 (by first | (intros; (try simp only [] at *); omega) | (intro hh; (try simp only [] at hh); omega) | (intro q h1 h2; (try simp only [] at h1 h2); have := hlt q (by omega); omega) | (intro hh; have hh : _ = _ := hh; subst hh; omega) | (intro q h1 h2; have h2 : q = _ := h2; subst h2; (try simp only [] at h1); omega) | (intro q h1 h2; (try simp only [] at h1 h2); omega) | (intro q h1 h2; have h2 : q = _ := h2; have := hlt q (by (try simp only [] at h1); omega); omega) | (intro q h1 h2; (try simp only [] at h1 h2); rcases h2 with h2 | h2 | h2 <;> first | omega | (subst h2; omega)) | (intro q h1 h2; (try simp only [] at h1 h2); rcases h2 with h2 | h2 | h2 | h2 <;> first | omega | (subst h2; omega)))) (((((h.M.keep hk1).keep hk2).keep hk3).keep hk4).ext hx5 (by intros; omega) (by first | (intros; (try simp only [] at *); omega) | (intro hh; (try simp only [] at hh); omega) | (intro q h1 h2; (try simp only [] at h1 h2); have := hlt q (by omega); omega) | (intro hh; have hh : _ = _ := hh; subst hh; omega) | (intro q h1 h2; have h2 : q = _ := h2; subst h2; (try simp only [] at h1); omega) | (intro q h1 h2; (try simp only [] at h1 h2); omega) | (intro q h1 h2; have h2 : q = _ := h2; have := hlt q (by (try simp only [] at h1); omega); omega) | (intro q h1 h2; (try simp only [] at h1 h2); rcases h2 with h2 | h2 | h2 <;> first | omega | (subst h2; omega)) | (intro q h1 h2; (try simp only [] at h1 h2); rcases h2 with h2 | h2 | h2 | h2 <;> first | omega | (subst h2; omega)))) (by intro hh; subst hh; omega) (by (try simp only []); omega) (by (try simp only []); omega) (by intro q hq; have := hlt q (by (try simp only [] at hq); omega); omega) (by omega)) Tryz.call45 rfl rfl) ?_
          rintro _ w6 ⟨rfl, A', n', c', hBn, hGn, hMn, hxn⟩
          have hxn' := hxn.size
          refine X.opsEnd ?_
          refine X.seq ?_
          refine X.region ?_
          refine X.opw X.wN rfl (X.move rfl) ?_
          refine X.opw X.wN rfl (X.nilCk rfl) ?_
          refine X.opw X.wN rfl (X.fldB (j := 2) Tryz.underlying71 rfl rfl Tryz.sizeOf3 rfl) ?_
          refine X.opw X.wN rfl (X.load1B Tryz.isAgg3 hBn rfl rfl) ?_
          refine X.opw X.wN rfl (X.add rfl rfl (X.w_i64 (by omega))) ?_
          refine X.opw X.wN rfl (X.nilCk rfl) ?_
          refine X.opw X.wN rfl (X.fldB (j := 2) Tryz.underlying71 rfl rfl Tryz.sizeOf3 rfl) ?_
          refine X.opE X.wN rfl (X.storeE Tryz.sizeOf3 hBn rfl rfl rfl rfl) ?_
          rintro _ w7 ⟨hB7, hx7, hz7⟩
          refine X.opsEnd ?_
          refine X.seq ?_
          refine X.region ?_
          refine X.opw X.wN rfl (X.move rfl) ?_
          refine X.opE X.wN rfl (X.callE (did_c _ hB7 (by omega)) Tryz.call46 rfl rfl) ?_
          rintro _ w8 ⟨rfl, hBd, hxd⟩
          have hxd' := hxd.size
          refine X.opw X.wN rfl (X.assign (v := .int .i64 _) rfl) ?_
          refine X.opsEnd ?_
          refine X.ret1 (v := (.int .i64 _)) Tryz.func12 Tryz.results12 rfl ?_
          have hfew : ¬ 256 ≤ s0.dir.length := by omega
          have hx : Ext (fun q => q = b ∨ q = bf ∨ q = bd ∨ col q = 6) w _ := (Ext.andThen (Ext.andThen (Ext.andThen (Ext.andThen (Ext.andThen (Ext.andThen (Ext.andThen (Ext.andThen (Ext.refl (fun q => q = b ∨ q = bf ∨ q = bd ∨ col q = 6) _) hk1 (by intro q h1 h2; first | exact (h2 : False).elim | ((try simp only [] at h2); omega))) hk2 (by intro q h1 h2; first | exact (h2 : False).elim | ((try simp only [] at h2); omega))) hk3 (by intro q h1 h2; first | exact (h2 : False).elim | ((try simp only [] at h2); omega))) hk4 (by intro q h1 h2; first | exact (h2 : False).elim | ((try simp only [] at h2); omega))) hx5 (by intro q h1 h2; first | exact (h2 : False).elim | ((try simp only [] at h2); omega))) hxn (by intro q h1 h2; first | exact (h2 : False).elim | ((try simp only [] at h2); omega))) hx7 (by intro q h1 h2; first | exact (h2 : False).elim | ((try simp only [] at h2); omega))) hxd (by intro q h1 h2; first | exact (h2 : False).elim | ((try simp only [] at h2); omega)))
          have hpl := h.pl
          have hp0 : col w3.heap.size = 0 := Classical.byContradiction fun e => by have := hlt _ e; omega
          generalize hcol : (fun q => if q < w.heap.size then col q else if q = w3.heap.size then 7 + 3 * s0.fs.length else if q < w8.heap.size then 6 else 0) = col'
          have hold : ∀ q, q < w.heap.size → col' q = col q := fun q hq => by rw [← hcol]; simp only [if_pos hq]
          have hnew : ∀ q, w.heap.size ≤ q → q ≠ w3.heap.size → q < w8.heap.size → col' q = 6 := fun q h1 h2 h3 => by rw [← hcol]; simp only [if_neg (Nat.not_lt.2 h1), if_neg h2, if_pos h3]
          have hpc : col' w3.heap.size = 7 + 3 * s0.fs.length := by rw [← hcol]; simp only [if_neg (show ¬ w3.heap.size < w.heap.size by omega), if_pos True.intro]
          have P := h.part (col' := col') (fun v => v = 1 ∨ v = 2 ∨ v = 3 ∨ v = 6) hx hold (fun q hq ht => by
            rcases ht with rfl | rfl | rfl | ht
            · exact .inl hcb
            · exact .inr (.inl hcf)
            · exact .inr (.inr (.inl hcd))
            · exact .inr (.inr (.inr ht)))
          have e : s0.create nm = (0, (({ s0 with fs := s0.fs ++ [([], [])] } : DS).note (⟨#[]⟩, nm, (s0.fs.length : Int))).did) := by simp only [DS.create, if_neg hD, if_neg hr, if_neg hth, if_neg hfew]
          rw [e]
          refine ⟨rfl, col', ⟨bf, bd, bx, bl, A', n', c', pt ++ [w3.heap.size], ?_, ?_, ((hGn.ext hx7 (by first | (intros; (try simp only [] at *); omega) | (intro hh; (try simp only [] at hh); omega) | (intro q h1 h2; (try simp only [] at h1 h2); have := hlt q (by omega); omega) | (intro hh; have hh : _ = _ := hh; subst hh; omega) | (intro q h1 h2; have h2 : q = _ := h2; subst h2; (try simp only [] at h1); omega) | (intro q h1 h2; (try simp only [] at h1 h2); omega) | (intro q h1 h2; have h2 : q = _ := h2; have := hlt q (by (try simp only [] at h1); omega); omega) | (intro q h1 h2; (try simp only [] at h1 h2); rcases h2 with h2 | h2 | h2 <;> first | omega | (subst h2; omega)) | (intro q h1 h2; (try simp only [] at h1 h2); rcases h2 with h2 | h2 | h2 | h2 <;> first | omega | (subst h2; omega)))).ext hxd (by first | (intros; (try simp only [] at *); omega) | (intro hh; (try simp only [] at hh); omega) | (intro q h1 h2; (try simp only [] at h1 h2); have := hlt q (by omega); omega) | (intro hh; have hh : _ = _ := hh; subst hh; omega) | (intro q h1 h2; have h2 : q = _ := h2; subst h2; (try simp only [] at h1); omega) | (intro q h1 h2; (try simp only [] at h1 h2); omega) | (intro q h1 h2; have h2 : q = _ := h2; have := hlt q (by (try simp only [] at h1); omega); omega) | (intro q h1 h2; (try simp only [] at h1 h2); rcases h2 with h2 | h2 | h2 <;> first | omega | (subst h2; omega)) | (intro q h1 h2; (try simp only [] at h1 h2); rcases h2 with h2 | h2 | h2 | h2 <;> first | omega | (subst h2; omega)))), P.X (by decide), P.L (by decide), ?_, P.cb, P.cf, P.cd, P.cx, P.cl, ?_, by simp [DS.did, DS.note, hpl], ?_⟩, ⟨hold, hx.mono (fun q _ t => ?_)⟩⟩
          · have := hBd
            have e1 : ((s0.fs ++ [([], [])] : List FILE).length : Int) = (s0.fs.length : Int) + 1 := by simp
            simp only [DS.did, DS.note, e1]
            exact this
          · have h1 := (((hG5.ext hxn (by first | (intros; (try simp only [] at *); omega) | (intro hh; (try simp only [] at hh); omega) | (intro q h1 h2; (try simp only [] at h1 h2); have := hlt q (by omega); omega) | (intro hh; have hh : _ = _ := hh; subst hh; omega) | (intro q h1 h2; have h2 : q = _ := h2; subst h2; (try simp only [] at h1); omega) | (intro q h1 h2; (try simp only [] at h1 h2); omega) | (intro q h1 h2; have h2 : q = _ := h2; have := hlt q (by (try simp only [] at h1); omega); omega) | (intro q h1 h2; (try simp only [] at h1 h2); rcases h2 with h2 | h2 | h2 <;> first | omega | (subst h2; omega)) | (intro q h1 h2; (try simp only [] at h1 h2); rcases h2 with h2 | h2 | h2 | h2 <;> first | omega | (subst h2; omega)))).ext hx7 (by first | (intros; (try simp only [] at *); omega) | (intro hh; (try simp only [] at hh); omega) | (intro q h1 h2; (try simp only [] at h1 h2); have := hlt q (by omega); omega) | (intro hh; have hh : _ = _ := hh; subst hh; omega) | (intro q h1 h2; have h2 : q = _ := h2; subst h2; (try simp only [] at h1); omega) | (intro q h1 h2; (try simp only [] at h1 h2); omega) | (intro q h1 h2; have h2 : q = _ := h2; have := hlt q (by (try simp only [] at h1); omega); omega) | (intro q h1 h2; (try simp only [] at h1 h2); rcases h2 with h2 | h2 | h2 <;> first | omega | (subst h2; omega)) | (intro q h1 h2; (try simp only [] at h1 h2); rcases h2 with h2 | h2 | h2 | h2 <;> first | omega | (subst h2; omega)))).ext hxd (by first | (intros; (try simp only [] at *); omega) | (intro hh; (try simp only [] at hh); omega) | (intro q h1 h2; (try simp only [] at h1 h2); have := hlt q (by omega); omega) | (intro hh; have hh : _ = _ := hh; subst hh; omega) | (intro q h1 h2; have h2 : q = _ := h2; subst h2; (try simp only [] at h1); omega) | (intro q h1 h2; (try simp only [] at h1 h2); omega) | (intro q h1 h2; have h2 : q = _ := h2; have := hlt q (by (try simp only [] at h1); omega); omega) | (intro q h1 h2; (try simp only [] at h1 h2); rcases h2 with h2 | h2 | h2 <;> first | omega | (subst h2; omega)) | (intro q h1 h2; (try simp only [] at h1 h2); rcases h2 with h2 | h2 | h2 | h2 <;> first | omega | (subst h2; omega))))
            have h2 := fmapF_put w3.heap.size pt 0
            rw [Nat.zero_add, hpl] at h2
            simp only [MPF, MpV]
            have h3 : mv (fun v : Value => v) (put (s0.fs.length : Int) (ptrV w3.heap.size) (fmapF 0 pt)) = mv (fun v : Value => v) (fmapF 0 (pt ++ [w3.heap.size])) := by rw [h2]
            rw [← h3]; exact h1
          · refine (((hMn.ext hx7 (by intros; omega) (by first | (intros; (try simp only [] at *); omega) | (intro hh; (try simp only [] at hh); omega) | (intro q h1 h2; (try simp only [] at h1 h2); have := hlt q (by omega); omega) | (intro hh; have hh : _ = _ := hh; subst hh; omega) | (intro q h1 h2; have h2 : q = _ := h2; subst h2; (try simp only [] at h1); omega) | (intro q h1 h2; (try simp only [] at h1 h2); omega) | (intro q h1 h2; have h2 : q = _ := h2; have := hlt q (by (try simp only [] at h1); omega); omega) | (intro q h1 h2; (try simp only [] at h1 h2); rcases h2 with h2 | h2 | h2 <;> first | omega | (subst h2; omega)) | (intro q h1 h2; (try simp only [] at h1 h2); rcases h2 with h2 | h2 | h2 | h2 <;> first | omega | (subst h2; omega)))).ext hxd (by intros; omega) (by first | (intros; (try simp only [] at *); omega) | (intro hh; (try simp only [] at hh); omega) | (intro q h1 h2; (try simp only [] at h1 h2); have := hlt q (by omega); omega) | (intro hh; have hh : _ = _ := hh; subst hh; omega) | (intro q h1 h2; have h2 : q = _ := h2; subst h2; (try simp only [] at h1); omega) | (intro q h1 h2; (try simp only [] at h1 h2); omega) | (intro q h1 h2; have h2 : q = _ := h2; have := hlt q (by (try simp only [] at h1); omega); omega) | (intro q h1 h2; (try simp only [] at h1 h2); rcases h2 with h2 | h2 | h2 <;> first | omega | (subst h2; omega)) | (intro q h1 h2; (try simp only [] at h1 h2); rcases h2 with h2 | h2 | h2 | h2 <;> first | omega | (subst h2; omega))))).mono (fun q hq hS => ?_)
            rcases hS with hS | ⟨h1, h2⟩
            · have := hlt q (by omega)
              rw [hold q this]; exact hS
            · exact hnew q (by omega) (by omega) (by omega)
          · intro q hq
            rw [← hcol] at hq
            simp only [] at hq
            split at hq
            · omega
            · split at hq
              · omega
              · split at hq
                · assumption
                · exact absurd rfl hq
          · intro k q f h1 h2
            rcases Nat.lt_or_ge k pt.length with hk | hk
            · have h3 : pt[k]? = some q := by rw [List.getElem?_append_left hk] at h1; exact h1
              have h4 : s0.fs[k]? = some f := by
                have h2 : (s0.fs ++ [([], [])] : List FILE)[k]? = some f := h2
                rw [List.getElem?_append_left (by omega)] at h2; exact h2
              exact P.fl k q f h3 h4 (fun j a1 a2 => by omega)
            · have hk0 : k = pt.length := by
                have := (List.getElem?_eq_some_iff.1 h1).1
                simp at this; omega
              subst hk0
              have h3 : q = w3.heap.size := by rw [List.getElem?_append_right (by omega)] at h1; simpa using h1.symm
              have h4 : f = ([], []) := by
                have h2 : (s0.fs ++ [([], [])] : List FILE)[pt.length]? = some f := h2
                rw [List.getElem?_append_right (by omega), hpl] at h2; simpa using h2.symm
              subst h3 h4
              refine ⟨by rw [hpc, hpl], none, 0, 0, none, 0, 0, ((((hB4.ext hx5 (by first | (intros; (try simp only [] at *); omega) | (intro hh; (try simp only [] at hh); omega) | (intro q h1 h2; (try simp only [] at h1 h2); have := hlt q (by omega); omega) | (intro hh; have hh : _ = _ := hh; subst hh; omega) | (intro q h1 h2; have h2 : q = _ := h2; subst h2; (try simp only [] at h1); omega) | (intro q h1 h2; (try simp only [] at h1 h2); omega) | (intro q h1 h2; have h2 : q = _ := h2; have := hlt q (by (try simp only [] at h1); omega); omega) | (intro q h1 h2; (try simp only [] at h1 h2); rcases h2 with h2 | h2 | h2 <;> first | omega | (subst h2; omega)) | (intro q h1 h2; (try simp only [] at h1 h2); rcases h2 with h2 | h2 | h2 | h2 <;> first | omega | (subst h2; omega)))).ext hxn (by first | (intros; (try simp only [] at *); omega) | (intro hh; (try simp only [] at hh); omega) | (intro q h1 h2; (try simp only [] at h1 h2); have := hlt q (by omega); omega) | (intro hh; have hh : _ = _ := hh; subst hh; omega) | (intro q h1 h2; have h2 : q = _ := h2; subst h2; (try simp only [] at h1); omega) | (intro q h1 h2; (try simp only [] at h1 h2); omega) | (intro q h1 h2; have h2 : q = _ := h2; have := hlt q (by (try simp only [] at h1); omega); omega) | (intro q h1 h2; (try simp only [] at h1 h2); rcases h2 with h2 | h2 | h2 <;> first | omega | (subst h2; omega)) | (intro q h1 h2; (try simp only [] at h1 h2); rcases h2 with h2 | h2 | h2 | h2 <;> first | omega | (subst h2; omega)))).ext hx7 (by first | (intros; (try simp only [] at *); omega) | (intro hh; (try simp only [] at hh); omega) | (intro q h1 h2; (try simp only [] at h1 h2); have := hlt q (by omega); omega) | (intro hh; have hh : _ = _ := hh; subst hh; omega) | (intro q h1 h2; have h2 : q = _ := h2; subst h2; (try simp only [] at h1); omega) | (intro q h1 h2; (try simp only [] at h1 h2); omega) | (intro q h1 h2; have h2 : q = _ := h2; have := hlt q (by (try simp only [] at h1); omega); omega) | (intro q h1 h2; (try simp only [] at h1 h2); rcases h2 with h2 | h2 | h2 <;> first | omega | (subst h2; omega)) | (intro q h1 h2; (try simp only [] at h1 h2); rcases h2 with h2 | h2 | h2 | h2 <;> first | omega | (subst h2; omega)))).ext hxd (by first | (intros; (try simp only [] at *); omega) | (intro hh; (try simp only [] at hh); omega) | (intro q h1 h2; (try simp only [] at h1 h2); have := hlt q (by omega); omega) | (intro hh; have hh : _ = _ := hh; subst hh; omega) | (intro q h1 h2; have h2 : q = _ := h2; subst h2; (try simp only [] at h1); omega) | (intro q h1 h2; (try simp only [] at h1 h2); omega) | (intro q h1 h2; have h2 : q = _ := h2; have := hlt q (by (try simp only [] at h1); omega); omega) | (intro q h1 h2; (try simp only [] at h1 h2); rcases h2 with h2 | h2 | h2 <;> first | omega | (subst h2; omega)) | (intro q h1 h2; (try simp only [] at h1 h2); rcases h2 with h2 | h2 | h2 | h2 <;> first | omega | (subst h2; omega)))), Row.of (Mine.nil _ _ _ _ _ _), Mine.nil _ _ _ _ _ _⟩
          · rcases t with rfl | rfl | rfl | t <;> omega
end Go.Proofs.YtcdebnppbnmmgaaGreat

namespace Go.Proofs.YtcdebnppbnmmgaaGreat
open Go Go.Proofs.YtcdebnppbnmmgaaGreat.X
set_option linter.unusedVariables false
set_option linter.unusedSimpArgs false
def DS.delete (nm : ByteArray) (s : DS) : Int × DS :=
  if s.down = true then (54, s) else if asc nm s.dir = none then (52, s) else (0, (s.note (nm, ⟨#[]⟩, 0)).did)
def DS.rename (nm to : ByteArray) (s : DS) : Int × DS :=
  if s.down = true then (54, s) else match asc nm s.dir with
  | none => (52, s)
  | some k => if rightN to = false then (51, s) else (0, (if to = nm then s else s.note (nm, to, k)).did)
def DS.syncDir (s : DS) : Int × DS := if s.down = true then (54, s) else (0, ({ s with fx := s.dir, chs := [] } : DS).did)
set_option maxHeartbeats 4000000 in
set_option maxRecDepth 100000 in
theorem Delete_c {col : Nat → Nat} {b bf bd bx bl : Nat} {A : Option Addr} {n c : Nat} {pt : List Nat} {s0 : DS} (nm : ByteArray) (w : World) (h : DkB col w b bf bd bx bl A n c pt s0) (hok : s0.Ok) (hnm : nm.size ≤ 9223372036854775807) (hsz : s0.size ≤ 100000) : Ret Tryz.prog 23 #[ptrV b, .string nm] w fun r w' => r = .int .i64 (s0.delete nm).1 ∧ ∃ col', DkR col' w' b (s0.delete nm).2 ∧ Stp col w col' w' := by
  have hbl := h.B.lt
  have hfl := h.F.lt
  have hdl := h.G.lt
  have hxl := h.X.lt
  have hll := h.L.lt
  have hcb := h.cb
  have hcf := h.cf
  have hcd := h.cd
  have hcx := h.cx
  have hcl := h.cl
  obtain ⟨z1, z2, z3, z4, z5, z6, z7, z8, z9, z10⟩ := h.ne
  have hlt := h.lt
  have hok1 := hok.lf
  have hok2 := hok.few
  rw [DS.size] at hsz
  refine X.enter Tryz.func23 rfl Tryz.ntmps23 rfl ?_
  refine X.seq ?_
  refine X.region ?_
  refine X.opw X.wN rfl (X.assign rfl) ?_
  refine X.opsEnd ?_
  refine X.seq ?_
  refine X.seq ?_
  refine X.region ?_
  refine X.opw X.wN rfl (X.move rfl) ?_
  refine X.opE X.wN rfl (X.callE (may_c _ h.B) Tryz.call43 rfl rfl) ?_
  rintro _ w1 ⟨rfl, hk1⟩
  have hk1' := hk1.size
  refine X.opw X.wN rfl (X.assign (v := .int .i64 _) rfl) ?_
  refine X.opsEnd ?_
  refine X.seq ?_
  refine X.region ?_
  refine X.opw X.wN rfl (X.move (v := .int .i64 _) rfl) ?_
  refine X.opP X.wN rfl rfl (X.neI rfl rfl) (fun h12 => ?_) (fun h12 => ?_)
  · have hd : (s0.fu && decide (s0.lf ≤ 0)) = true := by
      cases hq : (s0.fu && decide (s0.lf ≤ 0)) with
      | true => rfl
      | false => rw [hq] at h12; simp at h12
    have hD : s0.down = true := hd
    refine X.opsEnd ?_
    refine X.condT rfl ?_
    refine X.seq ?_
    refine X.region ?_
    refine X.opw X.wN rfl (X.move (v := .int .i64 _) rfl) ?_
    refine X.opw X.wN rfl (X.assign (v := .int .i64 _) rfl) ?_
    refine X.opsEnd ?_
    refine X.ret1 (v := (.int .i64 _)) Tryz.func23 Tryz.results23 rfl ?_
    have e : s0.delete nm = (54, s0) := by simp only [DS.delete, if_pos hD]
    rw [e]
    exact ⟨by rw [if_pos hd], col, (h.keep hk1).r, Stp.keep hk1⟩
  · have hd : ¬ (s0.fu && decide (s0.lf ≤ 0)) = true := by
      cases hq : (s0.fu && decide (s0.lf ≤ 0)) with
      | false => simp
      | true => rw [hq] at h12; simp at h12
    have hD : ¬ s0.down = true := hd
    refine X.opsEnd ?_
    refine X.condF rfl ?_
    refine X.skip ?_
    refine X.seq ?_
    refine X.seq ?_
    refine X.region ?_
    refine X.opw X.wN rfl (X.move rfl) ?_
    refine X.opw X.wN rfl (X.move (v := .string _) rfl) ?_
    refine X.opE X.wN rfl (X.callE (named_c nm _ (h.B.keep hk1) (h.G.keep hk1) (h.F.keep hk1)) Tryz.call47 rfl rfl) ?_
    rintro _ w2 ⟨rfl, hk2⟩
    have hk2' := hk2.size
    refine X.opw X.wN rfl (X.move rfl) ?_
    refine X.opw X.wN rfl (X.extr rfl rfl) ?_
    refine X.opw X.wN rfl (X.extr rfl rfl) ?_
    refine X.opw X.wN rfl (X.extr rfl rfl) ?_
    refine X.opw X.wN rfl (X.assign (v := .int .i64 _) rfl) ?_
    refine X.opw X.wN rfl (X.assign rfl) ?_
    refine X.opw X.wN rfl (X.assign (v := .bool _) rfl) ?_
    refine X.opsEnd ?_
    refine X.seq ?_
    refine X.region ?_
    refine X.opw X.wN rfl (X.move (v := .bool _) rfl) ?_
    refine X.opw X.wN rfl (X.not_ rfl) ?_
    refine X.opsEnd ?_
    refine X.condB rfl (fun hc => ?_) (fun hc => ?_)
    · have hno : asc nm s0.dir = none := by
        cases ha : asc nm s0.dir with
        | none => rfl
        | some k => rw [ha] at hc; simp at hc
      refine X.seq ?_
      refine X.region ?_
      refine X.opw X.wN rfl (X.assign rfl) ?_
      refine X.opsEnd ?_
      refine X.ret1 (v := (.int .i64 _)) Tryz.func23 Tryz.results23 rfl ?_
      have e : s0.delete nm = (52, s0) := by simp only [DS.delete, if_neg hD, if_pos hno]
      rw [e]
      exact ⟨rfl, col, (h.keep (hk1.trans hk2)).r, Stp.keep (hk1.trans hk2)⟩
    · obtain ⟨k, hfa⟩ : ∃ k, asc nm s0.dir = some k := by
        cases ha : asc nm s0.dir with
        | none => rw [ha] at hc; simp at hc
        | some k => exact ⟨k, rfl⟩
      obtain ⟨hka, hkb, _⟩ := hok.dir _ (asc_some hfa)
      have hka : 0 ≤ k := hka
      have hkb : k < s0.fs.length := hkb
      obtain ⟨pf, f, A1, n1, c1, A2, n2, c2, hfb, hpf, hff, hn1, hn2, hfl1, hpc, hBf, hM1, hM2⟩ := h.at_ hka hkb
      have hlf := hok.len hff
      have hpl2 := hBf.lt
      refine X.skip ?_
      refine X.seq ?_
      refine X.region ?_
      refine X.opw X.wN rfl (X.move rfl) ?_
      refine X.opw X.wN rfl (X.move (v := .string _) rfl) ?_
      refine X.opw X.wN rfl (X.buildB (vs := [(0, .string nm)]) (cs := #[.string nm, .string ⟨#[]⟩, .int .i64 0]) rfl (by kernel_rfl)) ?_
      refine X.opE X.wN rfl (X.callE (note_c (S := fun q => col q = 6) (nm, ⟨#[]⟩, 0) _ (h.B.keep (hk1.trans hk2)) ((h.G.keep hk1).keep hk2) ((h.M.keep hk1).keep hk2) (by intro hh; subst hh; omega) (by (try simp only []); omega) (by (try simp only []); omega) (by intro q hq; have := hlt q (by (try simp only [] at hq); omega); omega) (by omega)) Tryz.call45 rfl rfl) ?_
      rintro _ w3 ⟨rfl, A', n', c', hBn, hGn, hMn, hxn⟩
      have hxn' := hxn.size
      refine X.opsEnd ?_
      refine X.seq ?_
      refine X.region ?_
      refine X.opw X.wN rfl (X.move rfl) ?_
      refine X.opE X.wN rfl (X.callE (did_c _ hBn (by omega)) Tryz.call46 rfl rfl) ?_
      rintro _ w4 ⟨rfl, hBd, hxd⟩
      have hxd' := hxd.size
      refine X.opw X.wN rfl (X.assign (v := .int .i64 _) rfl) ?_
      refine X.opsEnd ?_
      refine X.ret1 (v := (.int .i64 _)) Tryz.func23 Tryz.results23 rfl ?_
      have hx : Ext (fun q => col q = 1 ∨ col q = 3 ∨ col q = 6) w w4 := (Ext.andThen (Ext.andThen (Ext.andThen (Ext.andThen (Ext.refl (fun q => col q = 1 ∨ col q = 3 ∨ col q = 6) _) hk1 (by intro q h1 h2; first | exact (h2 : False).elim | ((try simp only [] at h2); omega) | (have h2 : q = _ := h2; subst h2; omega) | (rcases h2 with h2 | h2 | h2 <;> first | omega | (subst h2; omega)))) hk2 (by intro q h1 h2; first | exact (h2 : False).elim | ((try simp only [] at h2); omega) | (have h2 : q = _ := h2; subst h2; omega) | (rcases h2 with h2 | h2 | h2 <;> first | omega | (subst h2; omega)))) hxn (by intro q h1 h2; first | exact (h2 : False).elim | ((try simp only [] at h2); omega) | (have h2 : q = _ := h2; subst h2; omega) | (rcases h2 with h2 | h2 | h2 <;> first | omega | (subst h2; omega)))) hxd (by intro q h1 h2; first | exact (h2 : False).elim | ((try simp only [] at h2); omega) | (have h2 : q = _ := h2; subst h2; omega) | (rcases h2 with h2 | h2 | h2 <;> first | omega | (subst h2; omega))))
      have hxs := hx.size
      obtain ⟨col', hcol⟩ : ∃ col', col' = rec' col w.heap.size w4.heap.size (6) := ⟨_, rfl⟩
      have hold : ∀ q, q < w.heap.size → col' q = col q := fun q hq => by rw [hcol]; exact rec_old hq
      have hnew : ∀ q, w.heap.size ≤ q → q < w4.heap.size → col' q = 6 := fun q h1 h2 => by rw [hcol]; exact rec_new h1 h2
      have hltc : ∀ q, col' q ≠ 0 → q < w4.heap.size := fun q hq => by rw [hcol] at hq; exact rec_lt hlt hxs hq
      have P := h.part (col' := col') (fun v => v = 1 ∨ v = 3 ∨ v = 6) hx hold (fun q hq ht => ht)
      have hst : Stp col w col' w4 := ⟨hold, hx.mono (fun q _ t => by (try simp only [] at t); omega)⟩
      have e : s0.delete nm = (0, (s0.note (nm, ⟨#[]⟩, 0)).did) := by simp only [DS.delete, if_neg hD, hfa]; rfl
      rw [e]
      refine ⟨rfl, col', ⟨bf, bd, bx, bl, A', n', c', pt, hBd, P.F (by decide), (hGn.ext hxd (by first | (intros; (try simp only [] at *); omega) | (intro hh; (try simp only [] at hh); omega) | (intro q h1 h2; (try simp only [] at h1 h2); have := hlt q (by omega); omega) | (intro hh; have hh : _ = _ := hh; subst hh; omega) | (intro q h1 h2; have h2 : q = _ := h2; subst h2; (try simp only [] at h1); omega) | (intro q h1 h2; (try simp only [] at h1 h2); omega) | (intro q h1 h2; have h2 : q = _ := h2; have := hlt q (by (try simp only [] at h1); omega); omega) | (intro q h1 h2; (try simp only [] at h1 h2); rcases h2 with h2 | h2 | h2 <;> first | omega | (subst h2; omega)) | (intro q h1 h2; (try simp only [] at h1 h2); rcases h2 with h2 | h2 | h2 | h2 <;> first | omega | (subst h2; omega)))), P.X (by decide), P.L (by decide), ?_, P.cb, P.cf, P.cd, P.cx, P.cl, hltc, P.pl, fun k q f h1 h2 => P.fl k q f h1 h2 (fun j a1 a2 => by omega)⟩, hst⟩
      refine ((hMn.ext hxd (by intros; omega) (by first | (intros; (try simp only [] at *); omega) | (intro hh; (try simp only [] at hh); omega) | (intro q h1 h2; (try simp only [] at h1 h2); have := hlt q (by omega); omega) | (intro hh; have hh : _ = _ := hh; subst hh; omega) | (intro q h1 h2; have h2 : q = _ := h2; subst h2; (try simp only [] at h1); omega) | (intro q h1 h2; (try simp only [] at h1 h2); omega) | (intro q h1 h2; have h2 : q = _ := h2; have := hlt q (by (try simp only [] at h1); omega); omega) | (intro q h1 h2; (try simp only [] at h1 h2); rcases h2 with h2 | h2 | h2 <;> first | omega | (subst h2; omega)) | (intro q h1 h2; (try simp only [] at h1 h2); rcases h2 with h2 | h2 | h2 | h2 <;> first | omega | (subst h2; omega))))).mono (fun q hq hS => ?_)
      rcases hS with hS | ⟨h1, h2⟩
      · have := hlt q (by omega)
        rw [hold q this]; exact hS
      · exact hnew q (by omega) (by omega)
set_option maxHeartbeats 4000000 in
set_option maxRecDepth 100000 in
theorem Rename_c {col : Nat → Nat} {b bf bd bx bl : Nat} {A : Option Addr} {n c : Nat} {pt : List Nat} {s0 : DS} (nm to : ByteArray) (w : World) (h : DkB col w b bf bd bx bl A n c pt s0) (hok : s0.Ok) (hto : to.size ≤ 9223372036854775807) (hsz : s0.size ≤ 100000) : Ret Tryz.prog 21 #[ptrV b, .string nm, .string to] w fun r w' => r = .int .i64 (s0.rename nm to).1 ∧ ∃ col', DkR col' w' b (s0.rename nm to).2 ∧ Stp col w col' w' := by
  have hbl := h.B.lt
  have hfl := h.F.lt
  have hdl := h.G.lt
  have hxl := h.X.lt
  have hll := h.L.lt
  have hcb := h.cb
  have hcf := h.cf
  have hcd := h.cd
  have hcx := h.cx
  have hcl := h.cl
  obtain ⟨z1, z2, z3, z4, z5, z6, z7, z8, z9, z10⟩ := h.ne
  have hlt := h.lt
  have hok1 := hok.lf
  have hok2 := hok.few
  rw [DS.size] at hsz
  refine X.enter Tryz.func21 rfl Tryz.ntmps21 rfl ?_
  refine X.seq ?_
  refine X.region ?_
  refine X.opw X.wN rfl (X.assign rfl) ?_
  refine X.opsEnd ?_
  refine X.seq ?_
  refine X.seq ?_
  refine X.region ?_
  refine X.opw X.wN rfl (X.move rfl) ?_
  refine X.opE X.wN rfl (X.callE (may_c _ h.B) Tryz.call43 rfl rfl) ?_
  rintro _ w1 ⟨rfl, hk1⟩
  have hk1' := hk1.size
  refine X.opw X.wN rfl (X.assign (v := .int .i64 _) rfl) ?_
  refine X.opsEnd ?_
  refine X.seq ?_
  refine X.region ?_
  refine X.opw X.wN rfl (X.move (v := .int .i64 _) rfl) ?_
  refine X.opP X.wN rfl rfl (X.neI rfl rfl) (fun h14 => ?_) (fun h14 => ?_)
  · have hd : (s0.fu && decide (s0.lf ≤ 0)) = true := by
      cases hq : (s0.fu && decide (s0.lf ≤ 0)) with
      | true => rfl
      | false => rw [hq] at h14; simp at h14
    have hD : s0.down = true := hd
    refine X.opsEnd ?_
    refine X.condT rfl ?_
    refine X.seq ?_
    refine X.region ?_
    refine X.opw X.wN rfl (X.move (v := .int .i64 _) rfl) ?_
    refine X.opw X.wN rfl (X.assign (v := .int .i64 _) rfl) ?_
    refine X.opsEnd ?_
    refine X.ret1 (v := (.int .i64 _)) Tryz.func21 Tryz.results21 rfl ?_
    have e : s0.rename nm to = (54, s0) := by simp only [DS.rename, if_pos hD]
    rw [e]
    exact ⟨by rw [if_pos hd], col, (h.keep hk1).r, Stp.keep hk1⟩
  · have hd : ¬ (s0.fu && decide (s0.lf ≤ 0)) = true := by
      cases hq : (s0.fu && decide (s0.lf ≤ 0)) with
      | false => simp
      | true => rw [hq] at h14; simp at h14
    have hD : ¬ s0.down = true := hd
    refine X.opsEnd ?_
    refine X.condF rfl ?_
    refine X.skip ?_
    refine X.seq ?_
    refine X.region ?_
    refine X.opw X.wN rfl (X.move rfl) ?_
    refine X.opw X.wN rfl (X.move (v := .string _) rfl) ?_
    refine X.opE X.wN rfl (X.callE (named_c nm _ (h.B.keep hk1) (h.G.keep hk1) (h.F.keep hk1)) Tryz.call47 rfl rfl) ?_
    rintro _ w2 ⟨rfl, hk2⟩
    have hk2' := hk2.size
    refine X.opw X.wN rfl (X.move rfl) ?_
    refine X.opw X.wN rfl (X.extr rfl rfl) ?_
    refine X.opw X.wN rfl (X.extr rfl rfl) ?_
    refine X.opw X.wN rfl (X.extr rfl rfl) ?_
    refine X.opw X.wN rfl (X.assign (v := .int .i64 _) rfl) ?_
    refine X.opw X.wN rfl (X.assign rfl) ?_
    refine X.opw X.wN rfl (X.assign (v := .bool _) rfl) ?_
    refine X.opsEnd ?_
    refine X.seq ?_
    refine X.block ?_
    refine X.seq ?_
    refine X.region ?_
    refine X.opw X.wN rfl (X.move (v := .bool _) rfl) ?_
    refine X.opw X.wN rfl (X.not_ rfl) ?_
    refine X.opw X.wN rfl (X.assign (v := .bool _) rfl) ?_
    refine X.opsEnd ?_
    refine X.condB rfl (fun hc => ?_) (fun hc => ?_)
    · have hno : asc nm s0.dir = none := by
        cases ha : asc nm s0.dir with
        | none => rfl
        | some k => rw [ha] at hc; simp at hc
      refine X.seq ?_
      refine X.region ?_
      refine X.opw X.wN rfl (X.assign rfl) ?_
      refine X.opsEnd ?_
      refine X.ret1 (v := (.int .i64 _)) Tryz.func21 Tryz.results21 rfl ?_
      have e : s0.rename nm to = (52, s0) := by simp only [DS.rename, if_neg hD, hno]
      rw [e]
      exact ⟨rfl, col, (h.keep (hk1.trans hk2)).r, Stp.keep (hk1.trans hk2)⟩
    · obtain ⟨k, hfa⟩ : ∃ k, asc nm s0.dir = some k := by
        cases ha : asc nm s0.dir with
        | none => rw [ha] at hc; simp at hc
        | some k => exact ⟨k, rfl⟩
      obtain ⟨hka, hkb, _⟩ := hok.dir _ (asc_some hfa)
      have hka : 0 ≤ k := hka
      have hkb : k < s0.fs.length := hkb
      obtain ⟨pf, f, A1, n1, c1, A2, n2, c2, hfb, hpf, hff, hn1, hn2, hfl1, hpc, hBf, hM1, hM2⟩ := h.at_ hka hkb
      have hlf := hok.len hff
      have hpl2 := hBf.lt
      rw [hfa, Option.getD_some, hfb, Option.getD_some]
      refine X.seq ?_
      refine X.region ?_
      refine X.opw X.wN rfl (X.move (v := .string _) rfl) ?_
      refine X.opE X.wN rfl (X.callE (right_c to _ hto) Tryz.call44 rfl rfl) ?_
      rintro _ w3 ⟨rfl, hk3⟩
      have hk3' := hk3.size
      refine X.opw X.wN rfl (X.not_ rfl) ?_
      refine X.opw X.wN rfl (X.assign (v := .bool _) rfl) ?_
      refine X.opsEnd ?_
      refine X.condB rfl (fun hr0 => ?_) (fun hr0 => ?_)
      · have hr : rightN to = false := by
          rw [rightN]
          cases hq : decide (to ≠ ⟨#[]⟩ ∧ to.size ≤ 64) with
          | false => rfl
          | true => rw [hq] at hr0; simp at hr0
        refine X.seq ?_
        refine X.region ?_
        refine X.opw X.wN rfl (X.assign rfl) ?_
        refine X.opsEnd ?_
        refine X.ret1 (v := (.int .i64 _)) Tryz.func21 Tryz.results21 rfl ?_
        have e : s0.rename nm to = (51, s0) := by simp only [DS.rename, if_neg hD, hfa, if_pos hr]
        rw [e]
        exact ⟨rfl, col, (h.keep ((hk1.trans hk2).trans hk3)).r, Stp.keep ((hk1.trans hk2).trans hk3)⟩
      · have hr : ¬ rightN to = false := by
          rw [rightN]
          cases hq : decide (to ≠ ⟨#[]⟩ ∧ to.size ≤ 64) with
          | true => simp
          | false => rw [hq] at hr0; simp at hr0
        refine X.seq ?_
        refine X.region ?_
        refine X.opw X.wN rfl (X.move (v := .string _) rfl) ?_
        refine X.opw X.wN rfl (X.move (v := .string _) rfl) ?_
        refine X.opP X.wN rfl rfl (X.neD rfl rfl) (fun h33 => ?_) (fun h33 => ?_)
        · have h33 : ¬ to = nm := h33
          refine X.opw X.wN rfl (X.assign (v := .bool true) rfl) ?_
          refine X.opsEnd ?_
          refine X.condT rfl ?_
          refine X.region ?_
          refine X.opw X.wN rfl (X.move rfl) ?_
          refine X.opw X.wN rfl (X.move (v := .string _) rfl) ?_
          refine X.opw X.wN rfl (X.move (v := .string _) rfl) ?_
          refine X.opw X.wN rfl (X.move (v := .int .i64 _) rfl) ?_
          refine X.opw X.wN rfl (X.buildB (vs := [(0, .string nm), (1, .string to), (2, .int .i64 k)]) (cs := #[.string nm, .string to, .int .i64 k]) rfl (by kernel_rfl)) ?_
          refine X.opE X.wN rfl (X.callE (note_c (S := fun q => col q = 6) (nm, to, k) _ (h.B.keep ((hk1.trans hk2).trans hk3)) (((h.G.keep hk1).keep hk2).keep hk3) (((h.M.keep hk1).keep hk2).keep hk3) (by intro hh; subst hh; omega) (by (try simp only []); omega) (by (try simp only []); omega) (by intro q hq; have := hlt q (by (try simp only [] at hq); omega); omega) (by omega)) Tryz.call45 rfl rfl) ?_
          rintro _ w4 ⟨rfl, A', n', c', hBn, hGn, hMn, hxn⟩
          have hxn' := hxn.size
          refine X.opsEnd ?_
          refine X.inBlock ?_
          refine X.seq ?_
          refine X.region ?_
          refine X.opw X.wN rfl (X.move rfl) ?_
          refine X.opE X.wN rfl (X.callE (did_c _ hBn (by omega)) Tryz.call46 rfl rfl) ?_
          rintro _ w5 ⟨rfl, hBd, hxd⟩
          have hxd' := hxd.size
          refine X.opw X.wN rfl (X.assign (v := .int .i64 _) rfl) ?_
          refine X.opsEnd ?_
          refine X.ret1 (v := (.int .i64 _)) Tryz.func21 Tryz.results21 rfl ?_
          have hx : Ext (fun q => col q = 1 ∨ col q = 3 ∨ col q = 6) w w5 := (Ext.andThen (Ext.andThen (Ext.andThen (Ext.andThen (Ext.andThen (Ext.refl (fun q => col q = 1 ∨ col q = 3 ∨ col q = 6) _) hk1 (by intro q h1 h2; first | exact (h2 : False).elim | ((try simp only [] at h2); omega) | (have h2 : q = _ := h2; subst h2; omega) | (rcases h2 with h2 | h2 | h2 <;> first | omega | (subst h2; omega)))) hk2 (by intro q h1 h2; first | exact (h2 : False).elim | ((try simp only [] at h2); omega) | (have h2 : q = _ := h2; subst h2; omega) | (rcases h2 with h2 | h2 | h2 <;> first | omega | (subst h2; omega)))) hk3 (by intro q h1 h2; first | exact (h2 : False).elim | ((try simp only [] at h2); omega) | (have h2 : q = _ := h2; subst h2; omega) | (rcases h2 with h2 | h2 | h2 <;> first | omega | (subst h2; omega)))) hxn (by intro q h1 h2; first | exact (h2 : False).elim | ((try simp only [] at h2); omega) | (have h2 : q = _ := h2; subst h2; omega) | (rcases h2 with h2 | h2 | h2 <;> first | omega | (subst h2; omega)))) hxd (by intro q h1 h2; first | exact (h2 : False).elim | ((try simp only [] at h2); omega) | (have h2 : q = _ := h2; subst h2; omega) | (rcases h2 with h2 | h2 | h2 <;> first | omega | (subst h2; omega))))
          have hxs := hx.size
          obtain ⟨col', hcol⟩ : ∃ col', col' = rec' col w.heap.size w5.heap.size (6) := ⟨_, rfl⟩
          have hold : ∀ q, q < w.heap.size → col' q = col q := fun q hq => by rw [hcol]; exact rec_old hq
          have hnew : ∀ q, w.heap.size ≤ q → q < w5.heap.size → col' q = 6 := fun q h1 h2 => by rw [hcol]; exact rec_new h1 h2
          have hltc : ∀ q, col' q ≠ 0 → q < w5.heap.size := fun q hq => by rw [hcol] at hq; exact rec_lt hlt hxs hq
          have P := h.part (col' := col') (fun v => v = 1 ∨ v = 3 ∨ v = 6) hx hold (fun q hq ht => ht)
          have hst : Stp col w col' w5 := ⟨hold, hx.mono (fun q _ t => by (try simp only [] at t); omega)⟩
          have e : s0.rename nm to = (0, (s0.note (nm, to, k)).did) := by simp only [DS.rename, if_neg hD, hfa, if_neg hr, if_neg h33]
          rw [e]
          refine ⟨rfl, col', ⟨bf, bd, bx, bl, A', n', c', pt, hBd, P.F (by decide), (hGn.ext hxd (by first | (intros; (try simp only [] at *); omega) | (intro hh; (try simp only [] at hh); omega) | (intro q h1 h2; (try simp only [] at h1 h2); have := hlt q (by omega); omega) | (intro hh; have hh : _ = _ := hh; subst hh; omega) | (intro q h1 h2; have h2 : q = _ := h2; subst h2; (try simp only [] at h1); omega) | (intro q h1 h2; (try simp only [] at h1 h2); omega) | (intro q h1 h2; have h2 : q = _ := h2; have := hlt q (by (try simp only [] at h1); omega); omega) | (intro q h1 h2; (try simp only [] at h1 h2); rcases h2 with h2 | h2 | h2 <;> first | omega | (subst h2; omega)) | (intro q h1 h2; (try simp only [] at h1 h2); rcases h2 with h2 | h2 | h2 | h2 <;> first | omega | (subst h2; omega)))), P.X (by decide), P.L (by decide), ?_, P.cb, P.cf, P.cd, P.cx, P.cl, hltc, P.pl, fun k q f h1 h2 => P.fl k q f h1 h2 (fun j a1 a2 => by omega)⟩, hst⟩
          refine ((hMn.ext hxd (by intros; omega) (by first | (intros; (try simp only [] at *); omega) | (intro hh; (try simp only [] at hh); omega) | (intro q h1 h2; (try simp only [] at h1 h2); have := hlt q (by omega); omega) | (intro hh; have hh : _ = _ := hh; subst hh; omega) | (intro q h1 h2; have h2 : q = _ := h2; subst h2; (try simp only [] at h1); omega) | (intro q h1 h2; (try simp only [] at h1 h2); omega) | (intro q h1 h2; have h2 : q = _ := h2; have := hlt q (by (try simp only [] at h1); omega); omega) | (intro q h1 h2; (try simp only [] at h1 h2); rcases h2 with h2 | h2 | h2 <;> first | omega | (subst h2; omega)) | (intro q h1 h2; (try simp only [] at h1 h2); rcases h2 with h2 | h2 | h2 | h2 <;> first | omega | (subst h2; omega))))).mono (fun q hq hS => ?_)
          rcases hS with hS | ⟨h1, h2⟩
          · have := hlt q (by omega)
            rw [hold q this]; exact hS
          · exact hnew q (by omega) (by omega)
        · have h33 : to = nm := by simpa using h33
          refine X.opw X.wN rfl (X.assign (v := .bool false) rfl) ?_
          refine X.opsEnd ?_
          refine X.condF rfl ?_
          refine X.skip ?_
          refine X.inBlock ?_
          refine X.seq ?_
          refine X.region ?_
          refine X.opw X.wN rfl (X.move rfl) ?_
          refine X.opE X.wN rfl (X.callE (did_c _ (h.B.keep ((hk1.trans hk2).trans hk3)) (by omega)) Tryz.call46 rfl rfl) ?_
          rintro _ w6 ⟨rfl, hBd, hxd⟩
          have hxd' := hxd.size
          refine X.opw X.wN rfl (X.assign (v := .int .i64 _) rfl) ?_
          refine X.opsEnd ?_
          refine X.ret1 (v := (.int .i64 _)) Tryz.func21 Tryz.results21 rfl ?_
          have hx : Ext (fun q => col q = 1) w w6 := (Ext.andThen (Ext.andThen (Ext.andThen (Ext.andThen (Ext.refl (fun q => col q = 1) _) hk1 (by intro q h1 h2; first | exact (h2 : False).elim | ((try simp only [] at h2); omega) | (have h2 : q = _ := h2; subst h2; omega) | (rcases h2 with h2 | h2 | h2 <;> first | omega | (subst h2; omega)))) hk2 (by intro q h1 h2; first | exact (h2 : False).elim | ((try simp only [] at h2); omega) | (have h2 : q = _ := h2; subst h2; omega) | (rcases h2 with h2 | h2 | h2 <;> first | omega | (subst h2; omega)))) hk3 (by intro q h1 h2; first | exact (h2 : False).elim | ((try simp only [] at h2); omega) | (have h2 : q = _ := h2; subst h2; omega) | (rcases h2 with h2 | h2 | h2 <;> first | omega | (subst h2; omega)))) hxd (by intro q h1 h2; first | exact (h2 : False).elim | ((try simp only [] at h2); omega) | (have h2 : q = _ := h2; subst h2; omega) | (rcases h2 with h2 | h2 | h2 <;> first | omega | (subst h2; omega))))
          have hxs := hx.size
          have hold : ∀ q, q < w.heap.size → col q = col q := fun _ _ => rfl
          have P := h.part (col' := col) (fun v => v = 1) hx hold (fun q hq ht => ht)
          have hst : Stp col w col w6 := ⟨hold, hx.mono (fun q _ t => by (try simp only [] at t); omega)⟩
          have e : s0.rename nm to = (0, s0.did) := by simp only [DS.rename, if_neg hD, hfa, if_neg hr, if_pos h33]
          rw [e]
          exact ⟨rfl, col, ⟨bf, bd, bx, bl, A, n, c, pt, hBd, P.F (by decide), P.G (by decide), P.X (by decide), P.L (by decide), P.M (by decide), P.cb, P.cf, P.cd, P.cx, P.cl, fun q hq => Nat.lt_of_lt_of_le (hlt q hq) hxs, P.pl, fun k q f h1 h2 => P.fl k q f h1 h2 (fun j a1 a2 => by omega)⟩, hst⟩
set_option maxHeartbeats 4000000 in
set_option maxRecDepth 100000 in
theorem mapClone_c {b : Nat} {d : DIR} (w : World) (hG : MPD w b d) : Ret Tryz.prog 51 #[.map (some b)] w fun r w' => r = .map (some w.heap.size) ∧ MPD w' w.heap.size d ∧ Keep w w' ∧ w'.heap.size = w.heap.size + 1 := by
  refine X.enter Tryz.func51 rfl Tryz.ntmps51 rfl ?_
  refine X.seq ?_
  refine X.region ?_
  refine X.opw X.wN rfl (X.assign rfl) ?_
  refine X.opsEnd ?_
  refine X.seq ?_
  refine X.seq ?_
  refine X.region ?_
  refine X.opw X.wN rfl (X.move rfl) ?_
  refine X.opw X.wN rfl (X.eqMap1 Tryz.underlying67 rfl rfl) ?_
  refine X.opsEnd ?_
  refine X.condF rfl ?_
  refine X.skip ?_
  refine X.seq ?_
  refine X.region ?_
  refine X.opw X.wN rfl (X.move rfl) ?_
  refine X.opw X.wN rfl (X.mkIface Tryz.underlying67 rfl rfl) ?_
  obtain ⟨wc, hrun, hGc, hkc, hzc⟩ := run_mapClone (P := Tryz.prog) (t := 67) hG
  refine X.opw X.wN rfl (X.externWE Tryz.func72 (by kernel_rfl) rfl (by kernel_rfl) (by kernel_rfl) rfl rfl hrun) ?_
  refine X.opw X.wN rfl (X.tAssertF Tryz.underlying67 rfl rfl) ?_
  refine X.opw X.wN rfl (X.assign rfl) ?_
  refine X.opsEnd ?_
  refine X.ret1 Tryz.func51 Tryz.results51 rfl ?_
  exact ⟨rfl, hGc, hkc, hzc⟩
set_option maxHeartbeats 4000000 in
set_option maxRecDepth 100000 in
theorem SyncDir_c {col : Nat → Nat} {b bf bd bx bl : Nat} {A : Option Addr} {n c : Nat} {pt : List Nat} {s0 : DS} (w : World) (h : DkB col w b bf bd bx bl A n c pt s0) (hok : s0.Ok) : Ret Tryz.prog 25 #[ptrV b] w fun r w' => r = .int .i64 (s0.syncDir).1 ∧ ∃ col', DkR col' w' b (s0.syncDir).2 ∧ Stp col w col' w' := by
  have hbl := h.B.lt
  have hfl := h.F.lt
  have hdl := h.G.lt
  have hxl := h.X.lt
  have hll := h.L.lt
  have hcb := h.cb
  have hcf := h.cf
  have hcd := h.cd
  have hcx := h.cx
  have hcl := h.cl
  obtain ⟨z1, z2, z3, z4, z5, z6, z7, z8, z9, z10⟩ := h.ne
  have hlt := h.lt
  have hok1 := hok.lf
  have hok2 := hok.few
  refine X.enter Tryz.func25 rfl Tryz.ntmps25 rfl ?_
  refine X.seq ?_
  refine X.region ?_
  refine X.opw X.wN rfl (X.assign rfl) ?_
  refine X.opsEnd ?_
  refine X.seq ?_
  refine X.seq ?_
  refine X.region ?_
  refine X.opw X.wN rfl (X.move rfl) ?_
  refine X.opE X.wN rfl (X.callE (may_c _ h.B) Tryz.call43 rfl rfl) ?_
  rintro _ w1 ⟨rfl, hk1⟩
  have hk1' := hk1.size
  refine X.opw X.wN rfl (X.assign (v := .int .i64 _) rfl) ?_
  refine X.opsEnd ?_
  refine X.seq ?_
  refine X.region ?_
  refine X.opw X.wN rfl (X.move (v := .int .i64 _) rfl) ?_
  refine X.opP X.wN rfl rfl (X.neI rfl rfl) (fun h7 => ?_) (fun h7 => ?_)
  · have hd : (s0.fu && decide (s0.lf ≤ 0)) = true := by
      cases hq : (s0.fu && decide (s0.lf ≤ 0)) with
      | true => rfl
      | false => rw [hq] at h7; simp at h7
    have hD : s0.down = true := hd
    refine X.opsEnd ?_
    refine X.condT rfl ?_
    refine X.seq ?_
    refine X.region ?_
    refine X.opw X.wN rfl (X.move (v := .int .i64 _) rfl) ?_
    refine X.opw X.wN rfl (X.assign (v := .int .i64 _) rfl) ?_
    refine X.opsEnd ?_
    refine X.ret1 (v := (.int .i64 _)) Tryz.func25 Tryz.results25 rfl ?_
    have e : s0.syncDir = (54, s0) := by simp only [DS.syncDir, if_pos hD]
    rw [e]
    exact ⟨by rw [if_pos hd], col, (h.keep hk1).r, Stp.keep hk1⟩
  · have hd : ¬ (s0.fu && decide (s0.lf ≤ 0)) = true := by
      cases hq : (s0.fu && decide (s0.lf ≤ 0)) with
      | false => simp
      | true => rw [hq] at h7; simp at h7
    have hD : ¬ s0.down = true := hd
    refine X.opsEnd ?_
    refine X.condF rfl ?_
    refine X.skip ?_
    refine X.seq ?_
    refine X.region ?_
    refine X.opw X.wN rfl (X.move rfl) ?_
    refine X.opw X.wN rfl (X.move rfl) ?_
    refine X.opw X.wN rfl (X.move rfl) ?_
    refine X.opw X.wN rfl (X.nilCk rfl) ?_
    refine X.opw X.wN rfl (X.fldB (j := 3) Tryz.underlying71 rfl rfl Tryz.sizeOf67 rfl) ?_
    refine X.opw X.wN rfl (X.load1B Tryz.isAgg67 (h.B.keep hk1) rfl rfl) ?_
    refine X.opE X.wN rfl (X.callE (mapClone_c _ (h.G.keep hk1)) Tryz.call51 rfl rfl) ?_
    rintro _ w2 ⟨rfl, hGc, hk2, hz2⟩
    refine X.opw X.wN rfl (X.nilCk rfl) ?_
    refine X.opw X.wN rfl (X.fldB (j := 4) Tryz.underlying71 rfl rfl Tryz.sizeOf67 rfl) ?_
    refine X.opE X.wN rfl (X.storeE Tryz.sizeOf67 (h.B.keep (hk1.trans hk2)) rfl rfl rfl rfl) ?_
    rintro _ w3 ⟨hB3, hx3, hz3⟩
    refine X.opw X.wN rfl (X.nilCk rfl) ?_
    refine X.opw X.wN rfl (X.fldB (j := 5) Tryz.underlying71 rfl rfl Tryz.sizeOf68 rfl) ?_
    refine X.opE X.wN rfl (X.storeE Tryz.sizeOf68 hB3 rfl rfl rfl rfl) ?_
    rintro _ w4 ⟨hB4, hx4, hz4⟩
    refine X.opsEnd ?_
    refine X.seq ?_
    refine X.region ?_
    refine X.opw X.wN rfl (X.move rfl) ?_
    refine X.opE X.wN rfl (X.callE (did_c _ hB4 (by omega)) Tryz.call46 rfl rfl) ?_
    rintro _ w5 ⟨rfl, hBd, hxd⟩
    have hxd' := hxd.size
    refine X.opw X.wN rfl (X.assign (v := .int .i64 _) rfl) ?_
    refine X.opsEnd ?_
    refine X.ret1 (v := (.int .i64 _)) Tryz.func25 Tryz.results25 rfl ?_
    have hx : Ext (fun q => col q = 1) w w5 := (Ext.andThen (Ext.andThen (Ext.andThen (Ext.andThen (Ext.andThen (Ext.refl (fun q => col q = 1) _) hk1 (by intro q h1 h2; first | exact (h2 : False).elim | ((try simp only [] at h2); omega) | (have h2 : q = _ := h2; subst h2; omega) | (rcases h2 with h2 | h2 | h2 <;> first | omega | (subst h2; omega)))) hk2 (by intro q h1 h2; first | exact (h2 : False).elim | ((try simp only [] at h2); omega) | (have h2 : q = _ := h2; subst h2; omega) | (rcases h2 with h2 | h2 | h2 <;> first | omega | (subst h2; omega)))) hx3 (by intro q h1 h2; first | exact (h2 : False).elim | ((try simp only [] at h2); omega) | (have h2 : q = _ := h2; subst h2; omega) | (rcases h2 with h2 | h2 | h2 <;> first | omega | (subst h2; omega)))) hx4 (by intro q h1 h2; first | exact (h2 : False).elim | ((try simp only [] at h2); omega) | (have h2 : q = _ := h2; subst h2; omega) | (rcases h2 with h2 | h2 | h2 <;> first | omega | (subst h2; omega)))) hxd (by intro q h1 h2; first | exact (h2 : False).elim | ((try simp only [] at h2); omega) | (have h2 : q = _ := h2; subst h2; omega) | (rcases h2 with h2 | h2 | h2 <;> first | omega | (subst h2; omega))))
    have hxs := hx.size
    obtain ⟨col', hcol⟩ : ∃ col', col' = rec' col w.heap.size w5.heap.size (4) := ⟨_, rfl⟩
    have hold : ∀ q, q < w.heap.size → col' q = col q := fun q hq => by rw [hcol]; exact rec_old hq
    have hnew : ∀ q, w.heap.size ≤ q → q < w5.heap.size → col' q = 4 := fun q h1 h2 => by rw [hcol]; exact rec_new h1 h2
    have hltc : ∀ q, col' q ≠ 0 → q < w5.heap.size := fun q hq => by rw [hcol] at hq; exact rec_lt hlt hxs hq
    have P := h.part (col' := col') (fun v => v = 1) hx hold (fun q hq ht => ht)
    have hst : Stp col w col' w5 := ⟨hold, hx.mono (fun q _ t => by (try simp only [] at t); omega)⟩
    have e : s0.syncDir = (0, ({ s0 with fx := s0.dir, chs := [] } : DS).did) := by simp only [DS.syncDir, if_neg hD]
    rw [e]
    have hcbk : col' w1.heap.size = 4 := hnew _ (by omega) (by omega)
    exact ⟨rfl, col', ⟨bf, bd, w1.heap.size, bl, none, 0, 0, pt, hBd, P.F (by decide), P.G (by decide), (((hGc.ext hx3 (by first | (intros; (try simp only [] at *); omega) | (intro hh; (try simp only [] at hh); omega) | (intro q h1 h2; (try simp only [] at h1 h2); have := hlt q (by omega); omega) | (intro hh; have hh : _ = _ := hh; subst hh; omega) | (intro q h1 h2; have h2 : q = _ := h2; subst h2; (try simp only [] at h1); omega) | (intro q h1 h2; (try simp only [] at h1 h2); omega) | (intro q h1 h2; have h2 : q = _ := h2; have := hlt q (by (try simp only [] at h1); omega); omega) | (intro q h1 h2; (try simp only [] at h1 h2); rcases h2 with h2 | h2 | h2 <;> first | omega | (subst h2; omega)) | (intro q h1 h2; (try simp only [] at h1 h2); rcases h2 with h2 | h2 | h2 | h2 <;> first | omega | (subst h2; omega)))).ext hx4 (by first | (intros; (try simp only [] at *); omega) | (intro hh; (try simp only [] at hh); omega) | (intro q h1 h2; (try simp only [] at h1 h2); have := hlt q (by omega); omega) | (intro hh; have hh : _ = _ := hh; subst hh; omega) | (intro q h1 h2; have h2 : q = _ := h2; subst h2; (try simp only [] at h1); omega) | (intro q h1 h2; (try simp only [] at h1 h2); omega) | (intro q h1 h2; have h2 : q = _ := h2; have := hlt q (by (try simp only [] at h1); omega); omega) | (intro q h1 h2; (try simp only [] at h1 h2); rcases h2 with h2 | h2 | h2 <;> first | omega | (subst h2; omega)) | (intro q h1 h2; (try simp only [] at h1 h2); rcases h2 with h2 | h2 | h2 | h2 <;> first | omega | (subst h2; omega)))).ext hxd (by first | (intros; (try simp only [] at *); omega) | (intro hh; (try simp only [] at hh); omega) | (intro q h1 h2; (try simp only [] at h1 h2); have := hlt q (by omega); omega) | (intro hh; have hh : _ = _ := hh; subst hh; omega) | (intro q h1 h2; have h2 : q = _ := h2; subst h2; (try simp only [] at h1); omega) | (intro q h1 h2; (try simp only [] at h1 h2); omega) | (intro q h1 h2; have h2 : q = _ := h2; have := hlt q (by (try simp only [] at h1); omega); omega) | (intro q h1 h2; (try simp only [] at h1 h2); rcases h2 with h2 | h2 | h2 <;> first | omega | (subst h2; omega)) | (intro q h1 h2; (try simp only [] at h1 h2); rcases h2 with h2 | h2 | h2 | h2 <;> first | omega | (subst h2; omega)))), P.L (by decide), Mine.nil _ _ _ _ _ _, P.cb, P.cf, P.cd, hcbk, P.cl, hltc, P.pl, fun k q f h1 h2 => P.fl k q f h1 h2 (fun j a1 a2 => by omega)⟩, hst⟩
end Go.Proofs.YtcdebnppbnmmgaaGreat

namespace Go.Proofs.YtcdebnppbnmmgaaGreat
open Go Go.Proofs.YtcdebnppbnmmgaaGreat.X
set_option linter.unusedVariables false
set_option linter.unusedSimpArgs false
theorem E8d : ElemInfo Tryz.prog 5 1 1 := ElemInfo.of (z := .int .u8 0) (by kernel_rfl) rfl rfl rfl
abbrev encPl (x : Int × Int) : Value := .agg #[.int .i64 x.1, .int .i64 x.2]
theorem eqPl (a b : Int × Int) (w : World) : (Op.equalIn 10000 94 (encPl a) (encPl b)).run Tryz.prog w = .ok (decide (a = b)) w := by
  rw [run_equalIn_struct w 9999 _ _ _ (by simp [Program.fieldsOf, Tryz.underlying94]) (by kernel_rfl)]
  simp only [Program.fieldsOf, Tryz.underlying94]
  simp [Op.eqFields, part, Tryz.isAgg3, run_equalIn_int _ 9998 3 .i64 .i64 _ _ Tryz.underlying3]
  obtain ⟨a1, a2⟩ := a
  obtain ⟨b1, b2⟩ := b
  by_cases h1 : a1 = b1 <;> by_cases h2 : a2 = b2 <;> simp [h1, h2]
theorem checkPl (em : Bool) (n : Nat) (x : Int × Int) (w : World) : (Instr.checkKey em (n + 2) 94 (encPl x)).run Tryz.prog w = .ok () w := by
  have h2 : ∀ (i : Int) w, (Instr.checkKey em (n + 1) 3 (.int .i64 i)).run Tryz.prog w = .ok () w := fun i w => by simp [Instr.checkKey, run_underlying Tryz.underlying3]
  rw [Instr.checkKey]
  simp [run_underlying Tryz.underlying94, part, Tryz.isAgg3, h2]
theorem bitsPl (n : Nat) (x : Int × Int) : Instr.sameBits (n + 2) (encPl x) (encPl x) = true := by
  have h2 : ∀ i : Int, Instr.sameBits (n + 1) (.int .i64 i) (.int .i64 i) = true := fun i => by simp [Instr.sameBits]
  rw [Instr.sameBits]
  simp [h2]
theorem keyPl : KeyT Tryz.prog 94 (fun x : Int × Int => encPl x) :=
  keyStruct Tryz.underlying94 (fun em x w => checkPl em 9998 x w) (fun x y w => eqPl x y w) (fun x => bitsPl 9998 x)
set_option maxHeartbeats 4000000 in
set_option maxRecDepth 100000 in
theorem CloneB_c {lo hi : Nat} {A : Option Addr} {n c : Nat} {l : List UInt8} (w : World) (hs : Sl KB lo hi w A n l) (hn : n ≤ 100000000) : Ret Tryz.prog 54 #[.slice A n c] w fun r w' => ∃ A' c', r = .slice A' n c' ∧ n ≤ c' ∧ Mine KB 5 (fun k => w.heap.size ≤ k ∧ k < w'.heap.size) 0 0 w' (.slice A' n c') l ∧ Keep w w' := by
  have hl := hs.len
  refine X.enter Tryz.func54 rfl Tryz.ntmps54 rfl ?_
  refine X.seq ?_
  refine X.region ?_
  refine X.opw X.wN rfl (X.assign rfl) ?_
  refine X.opsEnd ?_
  refine X.seq ?_
  refine X.seq ?_
  refine X.region ?_
  refine X.opw X.wN rfl (X.move (v := .slice _ _ _) rfl) ?_
  refine X.opB X.wN rfl rfl (X.eqNil Tryz.underlying31 rfl rfl) (fun h4 => ?_) (fun h4 => ?_)
  · refine X.opsEnd ?_
    refine X.condT rfl ?_
    refine X.seq ?_
    refine X.region ?_
    refine X.opw X.wN rfl (X.assign rfl) ?_
    refine X.opsEnd ?_
    refine X.ret1 Tryz.func54 Tryz.results54 rfl ?_
    have hq : n = 0 := by
      rcases Nat.eq_zero_or_pos n with h | h
      · exact h
      · obtain ⟨ad, e, _⟩ := hs.at_ h
        subst e; simp at h4
    subst hq
    have hq : l = [] := List.eq_nil_of_length_eq_zero hl
    subst hq
    exact ⟨none, 0, rfl, Nat.le_refl _, Mine.nil _ _ _ _ _ _, (Keep.refl _)⟩
  · refine X.opsEnd ?_
    refine X.condF rfl ?_
    refine X.skip ?_
    refine X.seq ?_
    refine X.region ?_
    refine X.opE X.wN rfl (X.lit0E (K := KB) (S := fun k => w.heap.size ≤ k) Tryz.underlying31 Tryz.sizeOf5 (by intros; (try simp only [] at *); omega)) ?_
    rintro v1 w1 ⟨hM1, hk1, hz1⟩
    refine X.opw X.wN rfl (X.move (v := .slice _ _ _) rfl) ?_
    refine X.opE X.wN rfl (X.appE (K := KB) (S := fun k => w.heap.size ≤ k) KB_flat Tryz.underlying31 E8d rfl rfl hM1 (hs.keep hk1) (by (try simp only [List.length_append, List.length_cons, List.length_nil, List.length_take, List.length_drop, List.length_map, List.length_range]); omega) (by intros; (try simp only [] at *); omega)) ?_
    rintro v2 w2 ⟨hM2, hx2⟩
    have hx2' := hx2.size
    refine X.opw X.wN rfl (X.assign rfl) ?_
    refine X.opsEnd ?_
    refine X.ret1 Tryz.func54 Tryz.results54 rfl ?_
    have hMx := hM2
    obtain ⟨A', c', e, hc', _⟩ := hMx.slice
    subst e
    have e2 : ([] ++ l).length = n := by simp [hl]
    rw [e2] at hMx hc'
    exact ⟨A', c', by rw [e2]; rfl, hc', hMx.mono fun k hk h => ⟨h, hk⟩, (hk1.step hx2 (by intros; (try simp only [] at *); omega))⟩
set_option maxHeartbeats 4000000 in
set_option maxRecDepth 100000 in
theorem Sync1_c {bn : Nat} {k : Int} (p : Int × Int) (q : Bool) (w : World) (hB : Blk w bn [.int .i64 k] 3) : Ret Tryz.prog 62 #[encPl p, .bool q, ptrV bn] w fun r w' => r = .bool (decide (p.1 = k)) ∧ Keep w w' := by
  refine X.enter Tryz.func62 rfl Tryz.ntmps62 rfl ?_
  refine X.seq ?_
  refine X.region ?_
  refine X.opE X.wN rfl (X.boxE rfl rfl) ?_
  rintro _ w1 ⟨rfl, hB1, hk1, hz1⟩
  refine X.opw X.wN rfl (X.assign rfl) ?_
  refine X.opsEnd ?_
  refine X.seq ?_
  refine X.region ?_
  refine X.opw X.wN rfl (X.fldB (j := 0) Tryz.underlying94 rfl rfl Tryz.sizeOf3 rfl) ?_
  refine X.opw X.wN rfl (X.load1B Tryz.isAgg3 hB1 rfl rfl) ?_
  refine X.opw X.wN rfl (X.load1B Tryz.isAgg3 (hB.keep hk1) rfl rfl) ?_
  refine X.opw X.wN rfl (X.eqI rfl rfl) ?_
  refine X.opw X.wN rfl (X.assign (v := .bool _) rfl) ?_
  refine X.opsEnd ?_
  refine X.ret1 (v := (.bool _)) Tryz.func62 Tryz.results62 rfl ?_
  exact ⟨rfl, hk1⟩
abbrev LS := List ((Int × Int) × Bool)
/-- What is struck, so far. -/
def kpt (k : Int) (ds : List (Int × Int)) (l : LS) : LS := l.filter fun p => !(decide (p.1 ∈ ds) && decide (p.1.1 = k))
theorem kpt_nil (k : Int) (l : LS) : kpt k [] l = l := by
  rw [kpt, List.filter_eq_self]
  intro p _; simp
theorem kpt_sub (k : Int) (ds : List (Int × Int)) (l : LS) : ∀ p, p ∈ kpt k ds l → p ∈ l := fun p h => (List.mem_filter.1 h).1
theorem kpt_nd {k : Int} {ds : List (Int × Int)} {l : LS} (h : (l.map (·.1)).Nodup) : ((kpt k ds l).map (·.1)).Nodup := h.sublist (List.filter_sublist.map _)
theorem kpt_keep {k : Int} {ds : List (Int × Int)} {l : LS} {a : Int × Int} (h : a.1 ≠ k) : kpt k (a :: ds) l = kpt k ds l := by
  rw [kpt, kpt]
  congr 1
  funext p
  by_cases e : p.1 = a
  · rw [e]; simp [h]
  · simp [e]
theorem kpt_del {k : Int} {ds : List (Int × Int)} {l : LS} {a : Int × Int} (hn : (l.map (·.1)).Nodup) (h : a.1 = k) : del a (kpt k ds l) = kpt k (a :: ds) l := by
  rw [del_eq (kpt_nd hn), kpt, kpt, List.filter_filter]
  congr 1
  funext p
  by_cases e : p.1 = a
  · rw [e]; simp [h]
  · simp [e]
theorem kpt_all {k : Int} {ds : List (Int × Int)} {l : LS} (h : ∀ p, p ∈ kpt k ds l → p.1 ∈ ds) : kpt k ds l = l.filter fun p => decide (p.1.1 ≠ k) := by
  rw [kpt]
  apply List.filter_congr
  intro p hp
  by_cases e : p.1.1 = k
  · by_cases hd : p.1 ∈ ds
    · simp [e, hd]
    · exact absurd (h p (List.mem_filter.2 ⟨hp, by simp [hd]⟩)) hd
  · simp [e]
theorem kpt_mv (k : Int) (ds : List (Int × Int)) (l : LS) {p : (Int × Int) × Value} (h : p ∈ mv (fun v : Bool => Value.bool v) (kpt k ds l)) : ∃ q, q ∈ kpt k ds l ∧ p = (q.1, .bool q.2) := by
  obtain ⟨q, hq, e⟩ := List.mem_map.1 h
  exact ⟨q, hq, e.symm⟩
set_option maxHeartbeats 4000000 in
set_option maxRecDepth 100000 in
theorem DelFunc_c {b bn : Nat} {k : Int} {l : LS} (w : World) (hL : MPL w b l) (hB : Blk w bn [.int .i64 k] 3) (hne : bn ≠ b) : Ret Tryz.prog 61 #[.map (some b), .func (.func 62) #[] #[ptrV bn]] w fun r w' => r = .tuple #[] ∧ MPL w' b (l.filter fun p => decide (p.1.1 ≠ k)) ∧ Ext (fun q => q = b) w w' := by
  have hbl := hL.lt
  have hBn := hB.lt
  have hndl : (l.map (·.1)).Nodup := by
    have := hL.nodup
    rw [mv, List.map_map] at this
    exact this
  refine X.enter Tryz.func61 rfl Tryz.ntmps61 rfl ?_
  refine X.seq ?_
  refine X.region ?_
  refine X.opw X.wN rfl (X.move rfl) ?_
  refine X.opE X.wN rfl (X.rangeE (enc := (fun x : Int × Int => Value.agg #[.int .i64 x.1, .int .i64 x.2])) Tryz.underlying69 hL rfl) ?_
  rintro _ w1 ⟨rfl, hI1, hk1, hz1⟩
  refine X.opsEnd ?_
  refine X.block ?_
  refine X.loopL (σ := List (Int × Int)) (fun s => [(0, .map (some b)), (1, .func (.func 62) #[] #[ptrV bn]), (7, .pointer (some ⟨w.heap.size, 0, none⟩))]) (fun s w' => ItW (fun x : Int × Int => encPl x) w' w.heap.size b (mv (fun v : Bool => Value.bool v) (kpt k s l)) s ∧ s.Nodup ∧ (∀ a, a ∈ s → a ∈ l.map (·.1)) ∧ Blk w' bn [.int .i64 k] 3 ∧ Ext (fun q => q = b) w w') (fun s => l.length + 1 - s.length) [] ⟨rfl, rfl, rfl, trivial⟩ ⟨by rw [kpt_nil]; exact (hI1).weak, List.nodup_nil, fun _ h => (by simp at h), (hB.keep hk1), (hk1).mono (fun _ _ h => h.elim)⟩ ?_
  rintro ds e w1 ⟨hI, hnd, hin, hBl, hx0⟩ hback
  have hx0' := hx0.size
  have hIl := hI.lt
  refine X.seq ?_
  refine X.region ?_
  refine X.opE X.wN rfl (X.nextWE hI rfl) ?_
  rintro _ w2 (⟨rfl, hall2, rfl⟩ | ⟨p2, hp2, hpn2, rfl, hI2, hx2, hz2⟩)
  · 
    refine X.opw X.wN rfl (X.extr rfl rfl) ?_
    refine X.opsEnd ?_
    refine X.seq ?_
    refine X.condF rfl ?_
    refine X.exit rfl ?_
    refine X.end0 Tryz.func61 Tryz.results61 ?_
    refine ⟨rfl, ?_, hx0⟩
    have e := kpt_all (fun p hp => hall2 (p.1, .bool p.2) (List.mem_map.2 ⟨p, hp, rfl⟩))
    rw [MPL, MpV, ← e]
    exact hI.mp
  · have hx2' := hx2.size
    obtain ⟨q, hq, rfl⟩ := kpt_mv k ds l hp2
    dsimp only at hpn2 hI2
    refine X.opw X.wN rfl (X.extr rfl rfl) ?_
    refine X.opsEnd ?_
    refine X.seq ?_
    refine X.condT rfl ?_
    refine X.skip ?_
    refine X.block ?_
    refine X.seq ?_
    refine X.region ?_
    refine X.opw X.wN rfl (X.entryE hI2 hp2 rfl) ?_
    refine X.opw X.wN rfl (X.extr rfl rfl) ?_
    refine X.opw X.wN rfl (X.extr rfl rfl) ?_
    refine X.opE X.wN rfl (X.allocE Tryz.zeroValue94 rfl) ?_
    rintro _ w3 ⟨rfl, hB3, hk3, hz3⟩
    refine X.opE X.wN rfl (X.storeNE Tryz.sizeOf94 hB3 rfl rfl rfl rfl (fun u hu => by simp at hu; rcases hu with rfl | rfl <;> rfl)) ?_
    rintro _ w4 ⟨hB4, hx4, hz4⟩
    refine X.opw X.wN rfl (X.assign (v := .bool _) rfl) ?_
    refine X.opsEnd ?_
    refine X.seq ?_
    refine X.region ?_
    refine X.opw X.wN rfl (X.move rfl) ?_
    refine X.opw X.wN rfl (X.loadNB Tryz.isAgg94 Tryz.sizeOf94 hB4 rfl rfl rfl) ?_
    refine X.opw X.wN rfl (X.move (v := .bool _) rfl) ?_
    refine X.opE X.wN rfl (X.callVE (vs := [_, _]) rfl (Sync1_c q.1 q.2 _ ((hBl.ext hx2 (by first | (intros; (try simp only [] at *); omega) | (intro hh; have hh : _ = _ := hh; omega))).keep (hk3.step hx4 (by intros; (try simp only [] at *); omega)))) Tryz.call62 rfl) ?_
    rintro _ w5 ⟨rfl, hk5⟩
    have hk5' := hk5.size
    refine X.opsEnd ?_
    refine X.condB rfl (fun hc => ?_) (fun hc => ?_)
    · refine X.region ?_
      refine X.opw X.wN rfl (X.move rfl) ?_
      refine X.opw X.wN rfl (X.loadNB Tryz.isAgg94 Tryz.sizeOf94 (hB4.keep hk5) rfl rfl rfl) ?_
      refine X.opE X.wN rfl (X.deleteItE Tryz.underlying69 keyPl (It.weak (((hI2.keep hk3).ext hx4 (by intro hh; (try simp only [] at hh); omega) (by intro hh; (try simp only [] at hh); omega)).keep hk5)) List.mem_cons_self rfl rfl) ?_
      rintro _ w6 ⟨rfl, hD6, hx6, hz6⟩
      refine X.opsEnd ?_
      refine X.inBlock ?_
      refine hback (q.1 :: ds) _ _ ⟨rfl, rfl, rfl, trivial⟩ ⟨(by rw [← kpt_del hndl (by simpa using hc), ← del_mv]; exact hD6), List.nodup_cons.2 ⟨hpn2, hnd⟩, (fun a ha => (List.mem_cons.1 ha).elim (fun e => by rw [e]; exact List.mem_map.2 ⟨q, kpt_sub k ds l q hq, rfl⟩) (hin a)), (((hBl.ext hx2 (by first | (intros; (try simp only [] at *); omega) | (intro hh; have hh : _ = _ := hh; omega))).keep ((hk3.step hx4 (by intros; (try simp only [] at *); omega)).trans hk5)).ext hx6 (by first | (intros; (try simp only [] at *); omega) | (intro hh; have hh : _ = _ := hh; omega))), (Ext.andThen (Ext.andThen (Ext.andThen (Ext.andThen (Ext.andThen (Ext.andThen (Ext.refl (fun q => q = b) _) hx0 (by intro q h1 h2; first | exact (h2 : False).elim | ((try simp only [] at h2); omega))) hx2 (by intro q h1 h2; first | exact (h2 : False).elim | ((try simp only [] at h2); omega))) hk3 (by intro q h1 h2; first | exact (h2 : False).elim | ((try simp only [] at h2); omega))) hx4 (by intro q h1 h2; first | exact (h2 : False).elim | ((try simp only [] at h2); omega))) hk5 (by intro q h1 h2; first | exact (h2 : False).elim | ((try simp only [] at h2); omega))) hx6 (by intro q h1 h2; first | exact (h2 : False).elim | ((try simp only [] at h2); omega)))⟩ (by have := nodup_len (ks := l.map (·.1)) (List.nodup_cons.2 ⟨hpn2, hnd⟩) (fun a ha => (List.mem_cons.1 ha).elim (fun e => by rw [e]; exact List.mem_map.2 ⟨q, kpt_sub k ds l q hq, rfl⟩) (hin a)); simp only [List.length_map, List.length_cons] at this ⊢; omega)
    · refine X.skip ?_
      refine X.inBlock ?_
      refine hback (q.1 :: ds) _ _ ⟨rfl, rfl, rfl, trivial⟩ ⟨(by rw [kpt_keep (by simpa using hc)]; exact It.weak (((hI2.keep hk3).ext hx4 (by intro hh; (try simp only [] at hh); omega) (by intro hh; (try simp only [] at hh); omega)).keep hk5)), List.nodup_cons.2 ⟨hpn2, hnd⟩, (fun a ha => (List.mem_cons.1 ha).elim (fun e => by rw [e]; exact List.mem_map.2 ⟨q, kpt_sub k ds l q hq, rfl⟩) (hin a)), ((hBl.ext hx2 (by first | (intros; (try simp only [] at *); omega) | (intro hh; have hh : _ = _ := hh; omega))).keep ((hk3.step hx4 (by intros; (try simp only [] at *); omega)).trans hk5)), (Ext.andThen (Ext.andThen (Ext.andThen (Ext.andThen (Ext.andThen (Ext.refl (fun q => q = b) _) hx0 (by intro q h1 h2; first | exact (h2 : False).elim | ((try simp only [] at h2); omega))) hx2 (by intro q h1 h2; first | exact (h2 : False).elim | ((try simp only [] at h2); omega))) hk3 (by intro q h1 h2; first | exact (h2 : False).elim | ((try simp only [] at h2); omega))) hx4 (by intro q h1 h2; first | exact (h2 : False).elim | ((try simp only [] at h2); omega))) hk5 (by intro q h1 h2; first | exact (h2 : False).elim | ((try simp only [] at h2); omega)))⟩ (by have := nodup_len (ks := l.map (·.1)) (List.nodup_cons.2 ⟨hpn2, hnd⟩) (fun a ha => (List.mem_cons.1 ha).elim (fun e => by rw [e]; exact List.mem_map.2 ⟨q, kpt_sub k ds l q hq, rfl⟩) (hin a)); simp only [List.length_map, List.length_cons] at this ⊢; omega)
end Go.Proofs.YtcdebnppbnmmgaaGreat
