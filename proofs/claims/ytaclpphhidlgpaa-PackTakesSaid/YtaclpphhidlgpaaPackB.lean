/- Contracts of package pack and its reference: may a tuple be, the bytes of numbers and rows. -/
import Derived.Test.YtaclpphhidlgpaaPackA
namespace Go.Proofs.Ytaclpphhidlgpaa
open Go Go.Proofs.Ytaclpphhidlgpaa.X
set_option linter.unusedVariables false
set_option linter.unusedSimpArgs false

theorem getN {α : Type} {l : List α} {n : Nat} (i : Nat) (hl : l.length = n) (h : (i : Int) < (n : Int)) : ∃ x, l[i]? = some x := ⟨l[i]'(by omega), List.getElem?_eq_getElem (by omega)⟩
theorem any_step {α : Type} {l : List α} {i : Nat} {x : α} (p : α → Bool) (hx : l[i]? = some x) : (l.take (i + 1)).any p = ((l.take i).any p || p x) := by
  rw [List.take_add_one, hx]; simp
theorem all_step {α : Type} {l : List α} {i : Nat} {x : α} (p : α → Bool) (hx : l[i]? = some x) : (l.take (i + 1)).all p = ((l.take i).all p && p x) := by
  rw [List.take_add_one, hx]; simp
theorem any_at {α : Type} {l : List α} {i : Nat} {x : α} (p : α → Bool) (hx : l[i]? = some x) (h : p x = true) : l.any p = true := by
  rw [List.any_eq_true]; exact ⟨x, List.mem_of_getElem? hx, h⟩
theorem KV_ok {lo hi : Nat} {w : World} {A : Option Addr} {n : Nat} {l : List VAL} (h : Sl KV lo hi w A n l) (i : Nat) (x : VAL) (hx : l[i]? = some x) : okV x := let ⟨_, _, _, hr, _⟩ := h.get i x hx; hr.2
/-- May a tuple be? -/
def isT (l : List VAL) : Bool := l.all isV && decide (l.length ≤ 8)
theorem IndexFunc_c {lo hi : Nat} {A : Option Addr} {n c : Nat} {l : List VAL} (w : World) (hs : Sl KV lo hi w A n l) (p : VAL → Bool) (F : FuncId) (hF : ∀ v w, okV v → Ret Try.prog F #[.agg (encV v).toArray] w fun r w' => r = .bool (p v) ∧ Keep w w') (hG : ∀ args w, (callFunc F args).run Try.prog w = .ok (.enter F args) w) :
    Ret Try.prog 77 #[.slice A n c, .func (.func F) #[] #[]] w fun r w' => (∃ q : Int, r = .int .i64 q ∧ decide (0 ≤ q) = l.any p) ∧ Keep w w' := by
  refine X.enter Try.func77 rfl Try.ntmps77 rfl ?_
  refine X.seq ?_
  refine X.region ?_
  refine X.opw X.wN rfl (X.assign rfl) ?_
  refine X.opsEnd ?_
  refine X.seq ?_
  refine X.seq ?_
  refine X.region ?_
  refine X.opw X.wN rfl (X.move rfl) ?_
  refine X.opw X.wN rfl (X.lenSl Try.underlying23 rfl) ?_
  refine X.opw X.wN rfl (X.move rfl) ?_
  refine X.opsEnd ?_
  refine X.block ?_
  -- LOOP live: 0=s, 1=f, 7, 8*
  refine X.loopL (σ := Nat) (fun s => [(0, .slice A n c), (1, .func (.func F) #[] #[]), (7, .int .i64 (n : Int)), (8, .int .i64 (s : Int))]) (fun s w' => s ≤ n ∧ (l.take s).any p = false ∧ Keep w w') (fun s => n - s) 0 ⟨rfl, rfl, rfl, rfl, trivial⟩ ⟨Nat.zero_le _, by simp, Keep.refl w⟩ ?_
  rintro i b w1 ⟨hi0, ha, hk⟩ hback
  have hn := hs.bound
  have hl := hs.len
  have hs' := hs.keep hk
  refine X.seq ?_
  refine X.region ?_
  refine X.opw X.wN rfl (X.lss rfl rfl) ?_
  refine X.opsEnd ?_
  refine X.seq ?_
  refine X.condP rfl (fun hc => ?_) (fun hc => ?_)
  · obtain ⟨x, hx⟩ := getN i hs.len hc
    refine X.skip ?_
    refine X.seq ?_
    refine X.block ?_
    refine X.seq ?_
    refine X.region ?_
    refine X.opw X.wN rfl (X.move rfl) ?_
    refine X.opw X.wN rfl (X.assign rfl) ?_
    refine X.opsEnd ?_
    refine X.seq ?_
    refine X.region ?_
    refine X.opw X.wN rfl (X.move rfl) ?_
    refine X.opw X.wN rfl (X.move rfl) ?_
    refine X.opw X.wN rfl (X.move rfl) ?_
    refine X.opw X.wN rfl (X.idxS hs' Try.underlying23 Try.sizeOf75 rfl rfl ⟨by omega, by omega⟩) ?_
    refine X.opw X.wN rfl (X.loadSN Try.isAgg75 Try.sizeOf75 hs' hx rfl (fun _ h => h.1) rfl) ?_
    refine X.opE X.wN rfl (X.callVE (vs := [_]) rfl (hF x _ (KV_ok hs i x hx)) hG rfl) ?_
    rintro _ w2 ⟨rfl, hk2⟩
    refine X.opsEnd ?_
    refine X.condB rfl (fun hc => ?_) (fun hc => ?_)
    · refine X.seq ?_
      refine X.region ?_
      refine X.opw X.wN rfl (X.move rfl) ?_
      refine X.opw X.wN rfl (X.assign rfl) ?_
      refine X.opsEnd ?_
      refine X.ret1 (v := (.int .i64 _)) Try.func77 Try.results77 rfl ?_
      exact ⟨⟨_, rfl, by rw [any_at p hx hc]; simp⟩, hk.trans hk2⟩
    · refine X.skip ?_
      refine X.inBlock ?_
      refine X.region ?_
      refine X.opw X.wN rfl (X.add rfl rfl (X.w_i64 (by omega))) ?_
      refine X.opw X.wN rfl (X.move rfl) ?_
      refine X.opsEnd ?_
      refine hback (i + 1) _ _ ⟨rfl, rfl, rfl, rfl, trivial⟩ ⟨by omega, by rw [any_step p hx, ha, hc]; rfl, hk.trans hk2⟩ (by omega)
  · refine X.exit rfl ?_
    refine X.seq ?_
    refine X.region ?_
    refine X.opw X.wN rfl (X.assign rfl) ?_
    refine X.opsEnd ?_
    refine X.ret1 (v := (.int .i64 _)) Try.func77 Try.results77 rfl ?_
    refine ⟨⟨_, rfl, ?_⟩, hk⟩
    rw [show i = l.length by omega, List.take_length] at ha
    rw [ha]; rfl
theorem ContainsFunc_c {lo hi : Nat} {A : Option Addr} {n c : Nat} {l : List VAL} (w : World) (hs : Sl KV lo hi w A n l) (p : VAL → Bool) (F : FuncId) (hF : ∀ v w, okV v → Ret Try.prog F #[.agg (encV v).toArray] w fun r w' => r = .bool (p v) ∧ Keep w w') (hG : ∀ args w, (callFunc F args).run Try.prog w = .ok (.enter F args) w) :
    Ret Try.prog 63 #[.slice A n c, .func (.func F) #[] #[]] w fun r w' => r = .bool (l.any p) ∧ Keep w w' := by
  refine X.enter Try.func63 rfl Try.ntmps63 rfl ?_
  refine X.seq ?_
  refine X.region ?_
  refine X.opw X.wN rfl (X.assign rfl) ?_
  refine X.opsEnd ?_
  refine X.seq ?_
  refine X.region ?_
  refine X.opw X.wN rfl (X.move rfl) ?_
  refine X.opw X.wN rfl (X.move rfl) ?_
  refine X.opE X.wN rfl (X.callE (IndexFunc_c w hs p F hF hG) Try.call77 rfl rfl) ?_
  rintro _ w1 ⟨⟨q, rfl, hq⟩, hk⟩
  refine X.opw X.wN rfl (X.geq rfl rfl) ?_
  refine X.opw X.wN rfl (X.assign rfl) ?_
  refine X.opsEnd ?_
  refine X.ret1 (v := (.bool _)) Try.func63 Try.results63 rfl ?_
  exact ⟨by rw [hq], hk⟩
theorem may_c {lo hi : Nat} {A : Option Addr} {n c : Nat} {l : List VAL} (w : World) (hs : Sl KV lo hi w A n l) :
    Ret Try.prog 41 #[.slice A n c] w fun r w' => r = .bool (isT l) ∧ Keep w w' := by
  refine X.enter Try.func41 rfl Try.ntmps41 rfl ?_
  refine X.seq ?_
  refine X.region ?_
  refine X.opw X.wN rfl (X.assign rfl) ?_
  refine X.opsEnd ?_
  refine X.seq ?_
  refine X.region ?_
  refine X.opw X.wN rfl (X.move rfl) ?_
  refine X.opw X.wN rfl (X.lenSl Try.underlying23 rfl) ?_
  refine X.opP X.wN rfl rfl (X.leq rfl rfl) (fun h5 => ?_) (fun h5 => ?_)
  · refine X.opw X.wN rfl (X.move rfl) ?_
    refine X.opw (X.wG rfl rfl rfl) rfl (X.move rfl) ?_
    refine X.opE (X.wG rfl rfl rfl) rfl (X.callE (ContainsFunc_c w hs (fun v => !isV v) 64 (fun v w _ => may1_c v w) Try.call64) Try.call63 rfl rfl) ?_
    rintro _ w1 ⟨rfl, hk⟩
    refine X.opw (X.wG rfl rfl rfl) rfl (X.not_ rfl) ?_
    refine X.opw X.wN rfl (X.pickT rfl rfl) ?_
    refine X.opw X.wN rfl (X.assign rfl) ?_
    refine X.opsEnd ?_
    refine X.ret1 (v := (.bool _)) Try.func41 Try.results41 rfl ?_
    exact ⟨by rw [isT, ← hs.len] at *; simp_all [List.any_eq_not_all_not]; intros; omega, hk⟩
  · refine X.opw X.wN rfl (X.move rfl) ?_
    refine X.opS rfl rfl rfl rfl rfl ?_
    refine X.opS rfl rfl rfl rfl rfl ?_
    refine X.opS rfl rfl rfl rfl rfl ?_
    refine X.opw X.wN rfl (X.pickF rfl rfl) ?_
    refine X.opw X.wN rfl (X.assign rfl) ?_
    refine X.opsEnd ?_
    refine X.ret1 (v := (.bool _)) Try.func41 Try.results41 rfl ?_
    exact ⟨by have := hs.len; simp [isT]; intros; omega, Keep.refl w⟩
theorem R03Is_c {lo hi : Nat} {A : Option Addr} {n c : Nat} {l : List VAL} (w : World) (hs : Sl KV lo hi w A n l) :
    Ret Try.prog 12 #[.slice A n c] w fun r w' => r = .bool (isT l) ∧ Keep w w' := by
  refine X.enter Try.func12 rfl Try.ntmps12 rfl ?_
  refine X.seq ?_
  refine X.region ?_
  refine X.opw X.wN rfl (X.assign rfl) ?_
  refine X.opsEnd ?_
  refine X.seq ?_
  refine X.seq ?_
  refine X.region ?_
  refine X.opw X.wN rfl (X.assign rfl) ?_
  refine X.opsEnd ?_
  refine X.block ?_
  -- LOOP live: 0=t, 3=i*
  refine X.loopL (σ := Nat) (fun s => [(0, .slice A n c), (3, .int .i64 (s : Int))]) (fun s w' => s ≤ n ∧ (l.take s).all isV = true ∧ Keep w w') (fun s => n - s) 0 ⟨rfl, rfl, trivial⟩ ⟨Nat.zero_le _, by simp, Keep.refl w⟩ ?_
  rintro i b w1 ⟨hi0, ha, hk⟩ hback
  have hn := hs.bound
  have hl := hs.len
  have hs' := hs.keep hk
  refine X.seq ?_
  refine X.seq ?_
  refine X.region ?_
  refine X.opw X.wN rfl (X.move rfl) ?_
  refine X.opw X.wN rfl (X.move rfl) ?_
  refine X.opw X.wN rfl (X.lenSl Try.underlying23 rfl) ?_
  refine X.opP X.wN rfl rfl (X.lss rfl rfl) (fun h7 => ?_) (fun h7 => ?_)
  · obtain ⟨x, hx⟩ := getN i hs.len h7
    refine X.opsEnd ?_
    refine X.condT rfl ?_
    refine X.skip ?_
    refine X.seq ?_
    refine X.block ?_
    refine X.seq ?_
    refine X.region ?_
    refine X.opw X.wN rfl (X.move rfl) ?_
    refine X.opw X.wN rfl (X.move rfl) ?_
    refine X.opw X.wN rfl (X.idxS hs' Try.underlying23 Try.sizeOf75 rfl rfl ⟨by omega, by omega⟩) ?_
    refine X.opw X.wN rfl (X.loadSN Try.isAgg75 Try.sizeOf75 hs' hx rfl (fun _ h => h.1) rfl) ?_
    refine X.opE X.wN rfl (X.callE (R01Is_c x _) Try.call42 rfl rfl) ?_
    rintro _ w2 ⟨rfl, hk2⟩
    refine X.opw X.wN rfl (X.not_ rfl) ?_
    refine X.opsEnd ?_
    refine X.condB rfl (fun hc => ?_) (fun hc => ?_)
    · refine X.seq ?_
      refine X.region ?_
      refine X.opw X.wN rfl (X.assign rfl) ?_
      refine X.opsEnd ?_
      refine X.ret1 (v := (.bool _)) Try.func12 Try.results12 rfl ?_
      refine ⟨?_, hk.trans hk2⟩
      have : l.all isV = false := by rw [List.all_eq_false]; exact ⟨x, List.mem_of_getElem? hx, by simpa using hc⟩
      simp [isT, this]
    · refine X.skip ?_
      refine X.inBlock ?_
      refine X.region ?_
      refine X.opw X.wN rfl (X.move rfl) ?_
      refine X.opw X.wN rfl (X.add rfl rfl (X.w_i64 (by omega))) ?_
      refine X.opw X.wN rfl (X.assign rfl) ?_
      refine X.opsEnd ?_
      refine hback (i + 1) _ _ ⟨rfl, rfl, trivial⟩ ⟨by omega, by rw [all_step isV hx, ha]; simpa using hc, hk.trans hk2⟩ (by omega)
  · refine X.opsEnd ?_
    refine X.condF rfl ?_
    refine X.exit rfl ?_
    refine X.seq ?_
    refine X.region ?_
    refine X.opw X.wN rfl (X.move rfl) ?_
    refine X.opw X.wN rfl (X.lenSl Try.underlying23 rfl) ?_
    refine X.opw X.wN rfl (X.leq rfl rfl) ?_
    refine X.opw X.wN rfl (X.assign rfl) ?_
    refine X.opsEnd ?_
    refine X.ret1 (v := (.bool _)) Try.func12 Try.results12 rfl ?_
    refine ⟨?_, hk⟩
    rw [show i = l.length by omega, List.take_length] at ha
    simp [isT, ha, hl]
    omega
end Go.Proofs.Ytaclpphhidlgpaa
