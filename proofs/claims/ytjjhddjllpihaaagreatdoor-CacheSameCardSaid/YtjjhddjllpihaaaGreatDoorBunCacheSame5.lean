/- Texts that the proof of CacheSame stands on, part 5. -/
import Derived.Orders
import Derived.Test.YtjjhddjllpihaaaGreatDoorBunCacheSame4
set_option maxHeartbeats 4000000
set_option maxRecDepth 100000
set_option linter.unusedSimpArgs false
namespace Go.Proofs.YtjjhddjllpihaaaGreatDoor.X
open Go
def evg (g : Nat → Value) : Operand → Value
  | .tmp t => g t
  | .const v => v
  | .global n => .pointer (some ⟨n, 0, none⟩)
  | .func f => .func (.func f) #[] #[]
def upd (g : Nat → Value) : Option Tmp → Value → Nat → Value
  | some d, v => fun t => match Nat.beq d t with | true => v | false => g t
  | none, _ => g
theorem ev_evg (E : Env) : E.ev = evg E.at_ := by funext x; cases x <;> rfl
theorem put_upd (E : Env) (d : Option Tmp) (v : Value) : (E.put d v).at_ = upd E.at_ d v := by
  cases d with
  | none => rfl
  | some d => funext t; rfl
theorem beq_ne {d t : Nat} (h : d ≠ t) : Nat.beq d t = false := by
  cases hb : Nat.beq d t
  · rfl
  · exact absurd (Nat.eq_of_beq_eq_true hb) h
theorem upd_comm (g : Nat → Value) {x y : Option Tmp} (v u : Value) (h : ∀ d, x = some d → y ≠ some d) : upd (upd g x v) y u = upd (upd g y u) x v := by
  cases x with
  | none => rfl
  | some d =>
    cases y with
    | none => rfl
    | some e =>
      have hne : d ≠ e := fun he => h d rfl (he ▸ rfl)
      funext t
      show (match Nat.beq e t with | true => u | false => (match Nat.beq d t with | true => v | false => g t)) = (match Nat.beq d t with | true => v | false => (match Nat.beq e t with | true => u | false => g t))
      cases h1 : Nat.beq d t <;> cases h2 : Nat.beq e t <;> first | rfl | exact absurd ((Nat.eq_of_beq_eq_true h1).trans (Nat.eq_of_beq_eq_true h2).symm) hne
theorem evg_upd (g : Nat → Value) {d : Option Tmp} (v : Value) {x : Operand} (h : ∀ t, d = some t → x ≠ .tmp t) : evg (upd g d v) x = evg g x := by
  cases d with
  | none => rfl
  | some d =>
    cases x with
    | tmp t =>
      have : d ≠ t := fun e => h d rfl (e ▸ rfl)
      show (match Nat.beq d t with | true => v | false => g t) = g t
      rw [beq_ne this]
    | _ => rfl
def yieldG (g : Nat → Value) (ops : Array Oper) (j : Nat) : Option Bool :=
  match (ops[j]?).bind (·.dst) with
  | some d => match g d with | .bool b => some b | _ => none
  | none => none
def wantG (g : Nat → Value) (ops : Array Oper) (o : Oper) : Bool := Region.wanted o (yieldG g ops)
theorem DoesE.congr {P : Program} {o : Oper} {ρ ρ' : Operand → Value} {w : World} {Q : Value → World → Prop} (h : ∀ x, x ∈ o.op.operands → ρ x = ρ' x) (hd : DoesE P o ρ w Q) : DoesE P o ρ' w Q :=
  fun fr cs ops i rest k ht hm ho hw he => hd fr cs ops i rest k ht hm ho hw fun x hx => (he x hx).trans (h x hx).symm
theorem Does.congr {P : Program} {o : Oper} {ρ ρ' : Operand → Value} {w : World} {v : Value} {w' : World} (h : ∀ x, x ∈ o.op.operands → ρ x = ρ' x) (hd : Does P o ρ w v w') : Does P o ρ' w v w' :=
  fun fr cs ops i rest k ht hm ho hw he => hd fr cs ops i rest k ht hm ho hw fun x hx => (he x hx).trans (h x hx).symm
theorem evg_apart {ops : Array Oper} {o : Oper} {g : Nat → Value} {d : Option Tmp} (v : Value) (h : ∀ t, d = some t → t ∉ o.looksAt ops) : ∀ x, x ∈ o.op.operands → evg (upd g d v) x = evg g x := by
  intro x hx
  refine evg_upd g v fun t ht e => h t ht ?_
  subst e
  unfold Oper.looksAt
  exact List.mem_append.2 (.inl (List.mem_filterMap.2 ⟨.tmp t, Array.mem_toList_iff.2 hx, rfl⟩))
theorem wantG_apart {ops : Array Oper} {o : Oper} {g : Nat → Value} {d : Option Tmp} (v : Value) (h : ∀ t, d = some t → t ∉ o.looksAt ops) : wantG (upd g d v) ops o = wantG g ops o := by
  unfold wantG Region.wanted
  cases hg : o.guard with
  | none => rfl
  | some jb =>
    obtain ⟨j, b⟩ := jb
    have : yieldG (upd g d v) ops j = yieldG g ops j := by
      unfold yieldG
      cases hd : (ops[j]?).bind (·.dst) with
      | none => rfl
      | some e =>
        have hne : ∀ t, d = some t → t ≠ e := fun t ht e' => h t ht (by
          subst e'
          unfold Oper.looksAt
          exact List.mem_append.2 (.inr (by simp [hg, hd])))
        have : upd g d v e = g e := by
          cases d with
          | none => rfl
          | some t => show (match Nat.beq t e with | true => v | false => g e) = g e; rw [beq_ne (hne t rfl)]
        simp only [this]
    simp only [this]
section
variable (P : Program) (f : FuncId) (N : Nat) (rd : Option Nat) (ops : Array Oper) (k : List Item) (D : List Deferred) (R : Out → World → Prop) (S : Nat → Prop) (m : Nat)
def Fin (g : Nat → Value) (w : World) : Prop := ∀ E : Env, E.at_ = g → Run P f N rd k E D w R
def AnyR : Nat → Array Bool → (Nat → Value) → World → Prop
  | 0, listed, g, w => Region.ready .any ops listed = [] ∧ Fin P f N rd k D R g w
  | fuel + 1, listed, g, w => (Region.ready .any ops listed = [] → Fin P f N rd k D R g w) ∧ ∀ i ∈ Region.ready .any ops listed, ∃ o, ops[i]? = some o ∧
      if wantG g ops o = true then DoesE P o (evg g) w fun v w' => (i < m → Ext S w w') ∧ AnyR fuel (listed.setIfInBounds i true) (upd g o.dst v) w'
      else AnyR fuel (listed.setIfInBounds i true) (upd g o.dst undef) w
variable {P f N rd ops k D R S m}
theorem AnyR.sound (hN : ∀ (j : Nat) (o : Oper) (d : Tmp), ops[j]? = some o → o.dst = some d → d < N) : ∀ (fuel t : Nat) (listed : Array Bool) (g : Nat → Value) (w : World), AnyR P f N rd ops k D R S m fuel listed g w → ∀ E : Env, E.at_ = g →
    Run P f N rd (.inRegion ops (Region.linearise.go .any ops fuel t listed []) :: k) E D w R := by
  intro fuel
  induction fuel with
  | zero =>
    intro t listed g w h E hE
    simp only [Region.linearise.go, List.reverse_nil]
    exact .of_step (fun _ _ _ _ => step_lone_go (by simp [stepG, stepG.exec])) (h.2 E hE)
  | succ fuel ih =>
    intro t listed g w h E hE
    have hrd : ((List.range ops.size).filter fun i => !listed.getD i true && ((ops[i]?).map (·.after.all fun e => !Region.binds .any e || listed.getD e.on false)).getD false) = Region.ready .any ops listed := rfl
    simp only [Region.linearise.go]
    rw [hrd]
    split
    · rename_i i hi
      have him : i ∈ Region.ready .any ops listed := List.mem_of_getElem? hi
      rw [linearise_go_acc]
      show Run P f N rd (.inRegion ops (i :: Region.linearise.go .any ops fuel _ (listed.setIfInBounds i true) []) :: k) E D w R
      obtain ⟨o, ho, hst⟩ := h.2 i him
      have hyl : ∀ tmps, Rep N E tmps → Region.wanted o (yielded ops tmps) = wantG g ops o := fun tmps ht => by
        unfold wantG Region.wanted
        cases hg : o.guard with
        | none => rfl
        | some jb =>
          obtain ⟨j, b⟩ := jb
          have : yielded ops tmps j = yieldG g ops j := by
            unfold yielded yieldG
            cases hd : (ops[j]?).bind (·.dst) with
            | none => rfl
            | some d =>
              obtain ⟨oj, hoj, hdj⟩ := Option.bind_eq_some_iff.1 hd
              have hlt : d < tmps.size := by rw [ht.size]; exact hN j oj d hoj hdj
              have h1 : tmps[d]? = some (g d) := by
                rw [Array.getElem?_eq_getElem hlt, ← hE, ← ht.at_ d]
                simp [Array.getD, hlt]
              simp only [Option.bind_some, h1]
              cases g d <;> rfl
          simp only [this]
      split at hst
      · rename_i hw
        intro kind cs tmps hc ht
        obtain ⟨v, w', ⟨_, hrest⟩, h1⟩ := hst (Fm f rd kind tmps (.inRegion ops (i :: Region.linearise.go .any ops fuel (t / (Region.ready .any ops listed).length) (listed.setIfInBounds i true) []) :: k) D .run) cs ops i _ k rfl rfl ho (by rw [hyl tmps ht]; exact hw) (fun x _ => by rw [frame_eval, ht.eval, ev_evg, hE])
        rw [finish_region f rd kind tmps ops i _ k D o ho] at h1
        obtain ⟨z, w2, r, m', h2, h3⟩ := ih (t / (Region.ready .any ops listed).length) _ _ _ hrest (E.put o.dst v) (by rw [put_upd, hE]) kind cs _ hc (ht.put' o.dst v (fun d hd => hN i o d ho hd))
        exact ⟨z, w2, r, m', h1.trans h2, h3⟩
      · rename_i hw
        intro kind cs tmps hc ht
        obtain ⟨z, w2, r, m', h2, h3⟩ := ih (t / (Region.ready .any ops listed).length) _ _ _ hst (E.put o.dst undef) (by rw [put_upd, hE]) kind cs _ hc (ht.put' o.dst undef (fun d hd => hN i o d ho hd))
        refine ⟨z, w2, r, m', .head (step_lone_go ?_) h2, h3⟩
        rw [← finish_region f rd kind tmps ops i _ k D o ho]
        have hwt : Region.wanted o (yielded ops tmps) = false := by rw [hyl tmps ht]; simpa using hw
        simp [stepG, stepG.exec, ho, hwt]
    · rename_i hnone
      simp only [List.reverse_nil]
      have hemp : Region.ready .any ops listed = [] := by
        cases hr : Region.ready .any ops listed with
        | nil => rfl
        | cons a as =>
          rw [hr] at hnone
          rw [List.getElem?_eq_getElem (Nat.mod_lt _ (by simp))] at hnone
          cases hnone
      exact .of_step (fun _ _ _ _ => step_lone_go (by simp [stepG, stepG.exec])) (h.1 hemp E hE)
theorem set_set_comm (a : Array Bool) (i j : Nat) : (a.setIfInBounds i true).setIfInBounds j true = (a.setIfInBounds j true).setIfInBounds i true := by
  by_cases h : i = j
  · subst h; rfl
  · exact Array.setIfInBounds_comm _ _ h
theorem AnyR.take {i : Nat} {oi : Oper} {v : Value} (hi : ops[i]? = some oi) (htail : ∀ (j : Nat) (oj : Oper), ops[j]? = some oj → m ≤ j → ∃ e, e ∈ oj.after ∧ Region.binds .any e = true ∧ e.on = i) :
    ∀ (fuel : Nat) (listed : Array Bool) (g : Nat → Value) (w : World),
      (∀ (j : Nat) (oj : Oper), ops[j]? = some oj → j ≠ i → listed.getD j true = false → (∀ e ∈ oj.after, Region.binds .any e = true → e.on ≠ i) → oi.apart ops oj = true) →
      i ∈ Region.ready .any ops listed → wantG g ops oi = true → (∀ w', Ext S w w' → Does P oi (evg g) w' v w') →
      AnyR P f N rd ops k D R S m fuel (listed.setIfInBounds i true) (upd g oi.dst v) w → AnyR P f N rd ops k D R S m (fuel + 1) listed g w := by
  intro fuel
  induction fuel with
  | zero =>
    intro listed g w hfree hr hw hst H
    refine ⟨fun he => absurd hr (by rw [he]; simp), fun j hj => ?_⟩
    by_cases hji : j = i
    · subst hji
      exact ⟨oi, hi, by rw [if_pos hw]; exact (hst w (Ext.refl S w)).e ⟨fun _ => Ext.refl S w, H⟩⟩
    · have := ready_mono hj hji
      rw [H.1] at this
      cases this
  | succ fuel ih =>
    intro listed g w hfree hr hw hst H
    refine ⟨fun he => absurd hr (by rw [he]; simp), fun j hj => ?_⟩
    by_cases hji : j = i
    · subst hji
      exact ⟨oi, hi, by rw [if_pos hw]; exact (hst w (Ext.refl S w)).e ⟨fun _ => Ext.refl S w, H⟩⟩
    · obtain ⟨oj, hoj, hstep⟩ := H.2 j (ready_mono hj hji)
      obtain ⟨hlj, o2, ho2, hall⟩ := mem_ready.1 hj
      obtain ⟨hli, _⟩ := mem_ready.1 hr
      have e2 : o2 = oj := Option.some.inj (ho2.symm.trans hoj)
      subst e2
      have hli' : listed.getD i false = false := by
        cases hq : listed.getD i false with
        | false => rfl
        | true =>
          have hlt : i < listed.size := by
            rcases Nat.lt_or_ge i listed.size with h' | h'
            · exact h'
            · simp [Array.getElem?_eq_none h'] at hq
          simp [hlt] at hq hli
          rw [hq] at hli
          cases hli
      have hno : ∀ e ∈ o2.after, Region.binds .any e = true → e.on ≠ i := fun e he hb hon => by
        have := hall e he hb
        rw [hon, hli'] at this
        cases this
      have hjm : j < m := by
        rcases Nat.lt_or_ge j m with h | h
        · exact h
        · obtain ⟨e, he, hb, hon⟩ := htail j o2 hoj h
          exact absurd hon (hno e he hb)
      obtain ⟨ap1, ap2, ap3⟩ := Oper.apart_spec (hfree j o2 hoj hji hlj hno)
      have hwj : wantG (upd g oi.dst v) ops o2 = wantG g ops o2 := wantG_apart v ap1
      have hevj : ∀ x, x ∈ o2.op.operands → evg (upd g oi.dst v) x = evg g x := evg_apart v ap1
      have hfree' : ∀ q oq, ops[q]? = some oq → q ≠ i → (listed.setIfInBounds j true).getD q true = false → (∀ e ∈ oq.after, Region.binds .any e = true → e.on ≠ i) → oi.apart ops oq = true := fun q oq hq hqi hl hn => by
        refine hfree q oq hq hqi ?_ hn
        by_cases hqj : j = q
        · subst hqj; exact hlj
        · rwa [getD_set_ne true hqj] at hl
      refine ⟨o2, hoj, ?_⟩
      rw [hwj] at hstep
      split
      · rename_i hwt
        rw [if_pos hwt] at hstep
        refine (hstep.congr hevj).mono ?_
        rintro vj wj ⟨hkp, hrest⟩
        refine ⟨hkp, ih _ _ _ hfree' (ready_mono hr (Ne.symm hji)) ?_ ?_ ?_⟩
        · rw [wantG_apart vj ap3]; exact hw
        · intro w' hk'
          exact (hst w' (Ext.trans (hkp hjm) hk' (fun _ _ x => x) (fun _ _ x => x))).congr fun x hx => (evg_apart vj ap3 x hx).symm
        · rw [set_set_comm, ← upd_comm g v vj ap2]; exact hrest
      · rename_i hwt
        rw [if_neg hwt] at hstep
        refine ih _ _ _ hfree' (ready_mono hr (Ne.symm hji)) ?_ ?_ ?_
        · rw [wantG_apart undef ap3]; exact hw
        · intro w' hk'
          exact (hst w' hk').congr fun x hx => (evg_apart undef ap3 x hx).symm
        · rw [set_set_comm, ← upd_comm g v undef ap2]; exact hstep
theorem AnyR.takeS {i : Nat} {oi : Oper} (hi : ops[i]? = some oi) (htail : ∀ (j : Nat) (oj : Oper), ops[j]? = some oj → m ≤ j → ∃ e, e ∈ oj.after ∧ Region.binds .any e = true ∧ e.on = i) :
    ∀ (fuel : Nat) (listed : Array Bool) (g : Nat → Value) (w : World),
      (∀ (j : Nat) (oj : Oper), ops[j]? = some oj → j ≠ i → listed.getD j true = false → (∀ e ∈ oj.after, Region.binds .any e = true → e.on ≠ i) → oi.apart ops oj = true) →
      i ∈ Region.ready .any ops listed → ¬ wantG g ops oi = true →
      AnyR P f N rd ops k D R S m fuel (listed.setIfInBounds i true) (upd g oi.dst undef) w → AnyR P f N rd ops k D R S m (fuel + 1) listed g w := by
  intro fuel
  induction fuel with
  | zero =>
    intro listed g w hfree hr hw H
    refine ⟨fun he => absurd hr (by rw [he]; simp), fun j hj => ?_⟩
    by_cases hji : j = i
    · subst hji
      exact ⟨oi, hi, by rw [if_neg hw]; exact H⟩
    · have := ready_mono hj hji
      rw [H.1] at this
      cases this
  | succ fuel ih =>
    intro listed g w hfree hr hw H
    refine ⟨fun he => absurd hr (by rw [he]; simp), fun j hj => ?_⟩
    by_cases hji : j = i
    · subst hji
      exact ⟨oi, hi, by rw [if_neg hw]; exact H⟩
    · obtain ⟨oj, hoj, hstep⟩ := H.2 j (ready_mono hj hji)
      obtain ⟨hlj, o2, ho2, hall⟩ := mem_ready.1 hj
      obtain ⟨hli, _⟩ := mem_ready.1 hr
      have e2 : o2 = oj := Option.some.inj (ho2.symm.trans hoj)
      subst e2
      have hli' : listed.getD i false = false := by
        cases hq : listed.getD i false with
        | false => rfl
        | true =>
          have hlt : i < listed.size := by
            rcases Nat.lt_or_ge i listed.size with h' | h'
            · exact h'
            · simp [Array.getElem?_eq_none h'] at hq
          simp [hlt] at hq hli
          rw [hq] at hli
          cases hli
      have hno : ∀ e ∈ o2.after, Region.binds .any e = true → e.on ≠ i := fun e he hb hon => by
        have := hall e he hb
        rw [hon, hli'] at this
        cases this
      have hjm : j < m := by
        rcases Nat.lt_or_ge j m with h | h
        · exact h
        · obtain ⟨e, he, hb, hon⟩ := htail j o2 hoj h
          exact absurd hon (hno e he hb)
      obtain ⟨ap1, ap2, ap3⟩ := Oper.apart_spec (hfree j o2 hoj hji hlj hno)
      have hwj : wantG (upd g oi.dst undef) ops o2 = wantG g ops o2 := wantG_apart undef ap1
      have hevj : ∀ x, x ∈ o2.op.operands → evg (upd g oi.dst undef) x = evg g x := evg_apart undef ap1
      have hfree' : ∀ q oq, ops[q]? = some oq → q ≠ i → (listed.setIfInBounds j true).getD q true = false → (∀ e ∈ oq.after, Region.binds .any e = true → e.on ≠ i) → oi.apart ops oq = true := fun q oq hq hqi hl hn => by
        refine hfree q oq hq hqi ?_ hn
        by_cases hqj : j = q
        · subst hqj; exact hlj
        · rwa [getD_set_ne true hqj] at hl
      refine ⟨o2, hoj, ?_⟩
      rw [hwj] at hstep
      split
      · rename_i hwt
        rw [if_pos hwt] at hstep
        refine (hstep.congr hevj).mono ?_
        rintro vj wj ⟨hkp, hrest⟩
        refine ⟨hkp, ih _ _ _ hfree' (ready_mono hr (Ne.symm hji)) ?_ ?_⟩
        · rw [wantG_apart vj ap3]; exact hw
        · rw [set_set_comm, ← upd_comm g undef vj ap2]; exact hrest
      · rename_i hwt
        rw [if_neg hwt] at hstep
        refine ih _ _ _ hfree' (ready_mono hr (Ne.symm hji)) ?_ ?_
        · rw [wantG_apart undef ap3]; exact hw
        · rw [set_set_comm, ← upd_comm g undef undef ap2]; exact hstep
def Drw (P : Program) (f : FuncId) (N : Nat) (rd : Option Nat) (ops : Array Oper) (k : List Item) (D : List Deferred) (R : Out → World → Prop) (S : Nat → Prop) (m : Nat) (fuel : Nat) (listed : Array Bool) (E : Env) (w : World) : Prop :=
  AnyR P f N rd ops k D R S m fuel listed E.at_ w
def allDst (N : Nat) (ops : Array Oper) : Bool := ops.all fun o => dstOk N o.dst
def tailOk (ops : Array Oper) (m i : Nat) : Bool := (List.range ops.size).all fun j => Nat.blt j m || match ops[j]? with
  | some o => o.after.any fun e => Region.binds .any e && e.on == i
  | none => true
theorem regionD {id : Nat} {E : Env} {w : World} (S : Nat → Prop) (m : Nat) (hm : P.follows .mixedOrders = true) (hN : allDst N ops = true)
    (h : ∀ w', Keep w w' → w'.heap.size = w.heap.size → Drw P f N rd ops k D R S m ops.size (Array.replicate ops.size false) E w') : Run P f N rd (.code (.region id ops true) :: k) E D w R := by
  have hN' : ∀ (j : Nat) (o : Oper) (d : Tmp), ops[j]? = some o → o.dst = some d → d < N := fun j o d ho hd => by
    have := Array.all_eq_true_iff_forall_mem.1 hN o (Array.mem_of_getElem? ho)
    exact dstOk.lt this d hd
  have hs := AnyR.sound hN' ops.size (w.tape w.drawn (.order f id)) _ _ _ (h w.drew (Keep.drew w) rfl) E rfl
  intro kind cs tmps hc ht
  obtain ⟨z, w2, r, m', h2, h3⟩ := hs kind cs tmps hc ht
  refine ⟨z, w2, r, m', .head (step_lone_go ?_) h2, h3⟩
  simp [stepG, stepG.exec, choose, Sem.run, Question.forced, Question.cut, hm, Region.schedule, Region.linearise]
theorem dEnd {E : Env} {w : World} {fuel : Nat} {listed : Array Bool} (hr : Region.ready .any ops listed = []) (h : Run P f N rd k E D w R) : Drw P f N rd ops k D R S m fuel listed E w := by
  have hf : Fin P f N rd k D R E.at_ w := fun E' hE => Run.env (fun t => congrFun hE t) h
  cases fuel with
  | zero => exact ⟨hr, hf⟩
  | succ n => exact ⟨fun _ => hf, fun i hi => by rw [hr] at hi; cases hi⟩
theorem dwN {E : Env} {o : Oper} (h : o.guard = none) : wantG E.at_ ops o = true := by simp [wantG, Region.wanted, h]
theorem dwG {E : Env} {o : Oper} {j d : Nat} {b : Bool} (hg : o.guard = some (j, b)) (hj : (ops[j]?).bind (·.dst) = some d) (hb : E.ev (.tmp d) = .bool b) : wantG E.at_ ops o = true := by
  have : E.at_ d = .bool b := hb
  simp [wantG, Region.wanted, hg, yieldG, hj, this]
theorem dTake {E : Env} {w : World} {fuel : Nat} {listed : Array Bool} (i : Nat) {o : Oper} {v : Value} (ho : ops[i]? = some o) (ht : tailOk ops m i = true) (hf : Region.free .any ops listed i = true) (hr : (Region.ready .any ops listed).contains i = true)
    (hw : wantG E.at_ ops o = true) (hd : ∀ w', Ext S w w' → Does P o E.ev w' v w') (h : Drw P f N rd ops k D R S m fuel (listed.setIfInBounds i true) (E.put o.dst v) w) : Drw P f N rd ops k D R S m (fuel + 1) listed E w := by
  unfold Drw
  refine AnyR.take ho ?_ fuel listed E.at_ w (fun j oj hj hji hl hn => Region.free_spec ho hf j oj hj hji hl hn) (by simpa using hr) hw (fun w' hk => by rw [← ev_evg]; exact hd w' hk) (by rw [← put_upd]; exact h)
  intro j oj hj hm
  simp only [tailOk, List.all_eq_true, List.mem_range] at ht
  have := ht j (Array.getElem?_eq_some_iff.1 hj).1
  rw [hj] at this
  have hb : Nat.blt j m = false := by
    cases hq : Nat.blt j m
    · rfl
    · exact absurd (blt_lt hq) Zz
  rw [hb, Bool.false_or] at this
  obtain ⟨e, he, hq⟩ := Array.any_eq_true'.1 this
  simp only [Bool.and_eq_true, beq_iff_eq] at hq
  exact ⟨e, he, hq.1, hq.2⟩
theorem tailOk.all {i : Nat} (ht : tailOk ops m i = true) : ∀ (j : Nat) (oj : Oper), ops[j]? = some oj → m ≤ j → ∃ e, e ∈ oj.after ∧ Region.binds .any e = true ∧ e.on = i := by
  intro j oj hj hm
  simp only [tailOk, List.all_eq_true, List.mem_range] at ht
  have := ht j (Array.getElem?_eq_some_iff.1 hj).1
  rw [hj] at this
  have hb : Nat.blt j m = false := by
    cases hq : Nat.blt j m
    · rfl
    · exact absurd (blt_lt hq) Zz
  rw [hb, Bool.false_or] at this
  obtain ⟨e, he, hq⟩ := Array.any_eq_true'.1 this
  simp only [Bool.and_eq_true, beq_iff_eq] at hq
  exact ⟨e, he, hq.1, hq.2⟩
theorem dTakeS {E : Env} {w : World} {fuel : Nat} {listed : Array Bool} (i : Nat) {o : Oper} {j d : Nat} {b b' : Bool} (ho : ops[i]? = some o) (ht : tailOk ops m i = true) (hf : Region.free .any ops listed i = true) (hr : (Region.ready .any ops listed).contains i = true)
    (hg : o.guard = some (j, b)) (hj : (ops[j]?).bind (·.dst) = some d) (hb : E.ev (.tmp d) = .bool b') (hne : (b' != b) = true) (h : Drw P f N rd ops k D R S m fuel (listed.setIfInBounds i true) (E.put o.dst undef) w) : Drw P f N rd ops k D R S m (fuel + 1) listed E w := by
  have hw : ¬ wantG E.at_ ops o = true := by
    have : E.at_ d = .bool b' := hb
    simp only [wantG, Region.wanted, hg, yieldG, hj, this]
    cases b <;> cases b' <;> first | (simp at hne; done) | simp
  unfold Drw
  exact AnyR.takeS ho (tailOk.all ht) fuel listed E.at_ w (fun j oj hj hji hl hn => Region.free_spec ho hf j oj hj hji hl hn) (by simpa using hr) hw (by rw [← put_upd]; exact h)
theorem dTakeU {E : Env} {w : World} {fuel : Nat} {listed : Array Bool} (i : Nat) {o : Oper} {j d : Nat} {b : Bool} (ho : ops[i]? = some o) (ht : tailOk ops m i = true) (hf : Region.free .any ops listed i = true) (hr : (Region.ready .any ops listed).contains i = true)
    (hg : o.guard = some (j, b)) (hj : (ops[j]?).bind (·.dst) = some d) (hb : E.ev (.tmp d) = undef) (h : Drw P f N rd ops k D R S m fuel (listed.setIfInBounds i true) (E.put o.dst undef) w) : Drw P f N rd ops k D R S m (fuel + 1) listed E w := by
  have hw : ¬ wantG E.at_ ops o = true := by
    have : E.at_ d = undef := hb
    simp only [wantG, Region.wanted, hg, yieldG, hj, this]
    simp [undef]
  unfold Drw
  exact AnyR.takeS ho (tailOk.all ht) fuel listed E.at_ w (fun j oj hj hji hl hn => Region.free_spec ho hf j oj hj hji hl hn) (by simpa using hr) hw (by rw [← put_upd]; exact h)
theorem dStep {E : Env} {w w' : World} {fuel : Nat} {listed : Array Bool} {i : Nat} {o : Oper} {v : Value} (hr : Region.ready .any ops listed = [i]) (ho : ops[i]? = some o) (hw : wantG E.at_ ops o = true) (hd : Does P o E.ev w v w') (hk : i < m → Ext S w w')
    (h : Drw P f N rd ops k D R S m fuel (listed.setIfInBounds i true) (E.put o.dst v) w') : Drw P f N rd ops k D R S m (fuel + 1) listed E w := by
  refine ⟨fun he => absurd (hr.symm.trans he) (by simp), fun j hj => ?_⟩
  rw [hr] at hj
  obtain rfl : j = i := by simpa using hj
  refine ⟨o, ho, ?_⟩
  rw [if_pos hw]
  rw [← ev_evg]
  exact hd.e ⟨hk, by rw [← put_upd]; exact h⟩
theorem dE {E : Env} {w : World} {fuel : Nat} {listed : Array Bool} {i : Nat} {o : Oper} {Q : Value → World → Prop} (hr : Region.ready .any ops listed = [i]) (ho : ops[i]? = some o) (hw : wantG E.at_ ops o = true) (hd : DoesE P o E.ev w Q) (hk : ∀ v w', Q v w' → i < m → Ext S w w')
    (h : ∀ v w', Q v w' → Drw P f N rd ops k D R S m fuel (listed.setIfInBounds i true) (E.put o.dst v) w') : Drw P f N rd ops k D R S m (fuel + 1) listed E w := by
  refine ⟨fun he => absurd (hr.symm.trans he) (by simp), fun j hj => ?_⟩
  rw [hr] at hj
  obtain rfl : j = i := by simpa using hj
  refine ⟨o, ho, ?_⟩
  rw [if_pos hw, ← ev_evg]
  exact hd.mono fun v w' hq => ⟨hk v w' hq, by rw [← put_upd]; exact h v w' hq⟩
theorem dFork {E : Env} {w : World} {fuel : Nat} {listed : Array Bool} (d : Nat) {b : Bool} (hb : E.ev (.tmp d) = .bool b) (h1 : b = true → Drw P f N rd ops k D R S m fuel listed (E.put (some d) (.bool true)) w) (h0 : b = false → Drw P f N rd ops k D R S m fuel listed (E.put (some d) (.bool false)) w) : Drw P f N rd ops k D R S m fuel listed E w := by
  have he : E.at_ = (E.put (some d) (.bool b)).at_ := by
    funext t
    show _ = lk E.b ((d, _) :: E.l) t
    rw [← hb]
    exact (lk_put E.b E.l d t).symm
  unfold Drw
  rw [he]
  cases b with
  | true => exact h1 rfl
  | false => exact h0 rfl
theorem dSkip {E : Env} {w : World} {fuel : Nat} {listed : Array Bool} {i : Nat} {o : Oper} {j d : Nat} {b b' : Bool} (hr : Region.ready .any ops listed = [i]) (ho : ops[i]? = some o) (hg : o.guard = some (j, b)) (hj : (ops[j]?).bind (·.dst) = some d) (hb : E.ev (.tmp d) = .bool b') (hne : (b' != b) = true)
    (h : Drw P f N rd ops k D R S m fuel (listed.setIfInBounds i true) (E.put o.dst undef) w) : Drw P f N rd ops k D R S m (fuel + 1) listed E w := by
  refine ⟨fun he => absurd (hr.symm.trans he) (by simp), fun q hq => ?_⟩
  rw [hr] at hq
  obtain rfl : q = i := by simpa using hq
  refine ⟨o, ho, ?_⟩
  have : E.at_ d = .bool b' := hb
  rw [if_neg]
  · unfold Drw at h
    rw [put_upd] at h
    exact h
  · simp only [wantG, Region.wanted, hg, yieldG, hj, this]
    cases b <;> cases b' <;> first | (simp at hne; done) | simp
def Drw1 (P : Program) (f : FuncId) (N : Nat) (rd : Option Nat) (ops : Array Oper) (k : List Item) (D : List Deferred) (R : Out → World → Prop) (S : Nat → Prop) (m : Nat) (i fuel : Nat) (listed : Array Bool) (E : Env) (w : World) : Prop :=
  ∃ o, ops[i]? = some o ∧ if wantG E.at_ ops o = true then DoesE P o (evg E.at_) w fun v w' => (i < m → Ext S w w') ∧ AnyR P f N rd ops k D R S m fuel (listed.setIfInBounds i true) (upd E.at_ o.dst v) w'
    else AnyR P f N rd ops k D R S m fuel (listed.setIfInBounds i true) (upd E.at_ o.dst undef) w
theorem dTwo {E : Env} {w : World} {fuel : Nat} {listed : Array Bool} {i j : Nat} (hr : Region.ready .any ops listed = [i, j]) (h1 : Drw1 P f N rd ops k D R S m i fuel listed E w) (h2 : Drw1 P f N rd ops k D R S m j fuel listed E w) : Drw P f N rd ops k D R S m (fuel + 1) listed E w := by
  refine ⟨fun he => absurd (hr.symm.trans he) (by simp), fun q hq => ?_⟩
  rw [hr] at hq
  simp only [List.mem_cons, List.not_mem_nil, or_false] at hq
  rcases hq with rfl | rfl
  · exact h1
  · exact h2
theorem d1Step {E : Env} {w w' : World} {fuel : Nat} {listed : Array Bool} {i : Nat} {o : Oper} {v : Value} (ho : ops[i]? = some o) (hw : wantG E.at_ ops o = true) (hd : Does P o E.ev w v w') (hk : i < m → Ext S w w')
    (h : Drw P f N rd ops k D R S m fuel (listed.setIfInBounds i true) (E.put o.dst v) w') : Drw1 P f N rd ops k D R S m i fuel listed E w := by
  refine ⟨o, ho, ?_⟩
  rw [if_pos hw]
  rw [← ev_evg]
  exact hd.e ⟨hk, by rw [← put_upd]; exact h⟩
theorem d1E {E : Env} {w : World} {fuel : Nat} {listed : Array Bool} {i : Nat} {o : Oper} {Q : Value → World → Prop} (ho : ops[i]? = some o) (hw : wantG E.at_ ops o = true) (hd : DoesE P o E.ev w Q) (hk : ∀ v w', Q v w' → i < m → Ext S w w')
    (h : ∀ v w', Q v w' → Drw P f N rd ops k D R S m fuel (listed.setIfInBounds i true) (E.put o.dst v) w') : Drw1 P f N rd ops k D R S m i fuel listed E w := by
  refine ⟨o, ho, ?_⟩
  rw [if_pos hw, ← ev_evg]
  exact hd.mono fun v w' hq => ⟨hk v w' hq, by rw [← put_upd]; exact h v w' hq⟩
end
section
variable {P : Program} {f : FuncId} {N : Nat} {rd : Option Nat} {k : List Item} {D : List Deferred} {R : Out → World → Prop} {S : Nat → Prop} {ops : Array Oper} {m : Nat} {E : Env} {w : World} {fuel : Nat} {listed : Array Bool} {dst : Option Tmp} {op : Op} {ty : TypeId} {pos : String} {aft : Array Edge}
theorem ZD (i : Nat) {v : Value} (ho : ops[i]? = some ⟨dst, op, ty, pos, aft, none⟩) (h3 : (tailOk ops m i && (Region.free .any ops listed i && (Region.ready .any ops listed).contains i)) = true) (hd : ∀ w', Ext S w w' → Does P ⟨dst, op, ty, pos, aft, none⟩ E.ev w' v w') (h : Drw P f N rd ops k D R S m fuel (listed.setIfInBounds i true) (E.put dst v) w) : Drw P f N rd ops k D R S m (fuel + 1) listed E w := by simp only [Bool.and_eq_true] at h3; exact dTake i ho h3.1 h3.2.1 h3.2.2 (dwN rfl) hd h
theorem ZDc (i : Nat) {v : Value} (ho : ops[i]? = some ⟨dst, op, ty, pos, aft, none⟩) (h3 : (tailOk ops m i && (Region.free .any ops listed i && (Region.ready .any ops listed).contains i)) = true) (hd : ∀ {w'}, Does P ⟨dst, op, ty, pos, aft, none⟩ E.ev w' v w') (h : Drw P f N rd ops k D R S m fuel (listed.setIfInBounds i true) (E.put dst v) w) : Drw P f N rd ops k D R S m (fuel + 1) listed E w := by simp only [Bool.and_eq_true] at h3; exact dTake i ho h3.1 h3.2.1 h3.2.2 (dwN rfl) (fun w' _ => hd) h
theorem ZG (i : Nat) {v : Value} {j d : Nat} {b : Bool} (ho : ops[i]? = some ⟨dst, op, ty, pos, aft, some (j, b)⟩) (hj : (ops[j]?).bind (·.dst) = some d) (hb : E.ev (.tmp d) = .bool b) (h3 : (tailOk ops m i && (Region.free .any ops listed i && (Region.ready .any ops listed).contains i)) = true) (hd : ∀ w', Ext S w w' → Does P ⟨dst, op, ty, pos, aft, some (j, b)⟩ E.ev w' v w') (h : Drw P f N rd ops k D R S m fuel (listed.setIfInBounds i true) (E.put dst v) w) : Drw P f N rd ops k D R S m (fuel + 1) listed E w := by simp only [Bool.and_eq_true] at h3; exact dTake i ho h3.1 h3.2.1 h3.2.2 (dwG rfl hj hb) hd h
end
theorem str_eq (a b : ByteArray) : (a.toList == b.toList) = decide (a = b) := by
  by_cases h : a = b
  · subst h; simp
  · rw [ByteArray.toList_eq, ByteArray.toList_eq]
    have h2 : decide (a = b) = false := decide_eq_false h
    rw [h2]
    exact beq_eq_false_iff_ne.2 fun e => h (Go.WideShapes.bytes_inj e)
section
variable {P : Program} {ρ : Operand → Value} {w : World} {dst : Option Tmp} {ty : TypeId} {pos : String} {aft : Array Edge} {g : Option (Nat × Bool)}
theorem eqD {T T' : TypeId} {x y : Operand} {a b : ByteArray} (hx : ρ x = .string a) (hy : ρ y = .string b) : Does P ⟨dst, .binOp .eql T x y T', ty, pos, aft, g⟩ ρ w (.bool (decide (a = b))) w := by
  rw [← str_eq]; exact eqS hx hy
theorem neD {T T' : TypeId} {x y : Operand} {a b : ByteArray} (hx : ρ x = .string a) (hy : ρ y = .string b) : Does P ⟨dst, .binOp .neq T x y T', ty, pos, aft, g⟩ ρ w (.bool (decide (a ≠ b))) w := by
  have : decide (a ≠ b) = !decide (a = b) := by by_cases h : a = b <;> simp [h]
  rw [this, ← str_eq]; exact neS hx hy
theorem ltD {T T' : TypeId} {x y : Operand} {a b : ByteArray} (hx : ρ x = .string a) (hy : ρ y = .string b) : Does P ⟨dst, .binOp .lss T x y T', ty, pos, aft, g⟩ ρ w (.bool (Op.bytesLess a.data.toList b.data.toList)) w := by
  rw [← ByteArray.toList_eq, ← ByteArray.toList_eq]; exact ltS hx hy
theorem eqA {T T' : TypeId} {x y : Operand} {xs ys : Array Value} {b : Bool} (hg : P.eqGuardType P.depth T = false) (hx : ρ x = .agg xs) (hy : ρ y = .agg ys) (he : (Op.equalIn 10000 T (.agg xs) (.agg ys)).run P w = .ok b w) : Does P ⟨dst, .binOp .eql T x y T', ty, pos, aft, g⟩ ρ w (.bool b) w :=
  does_run rfl (by simp [execOp, hx, hy, run_eqGuard_agg w .eql T x y xs ys hg, run_eql_struct, he, Result.andThen])
theorem build {T : TypeId} {ps : Array (Nat × Operand)} {v : Value} (h : ∀ w, (Instr.build T (ps.map fun (i, x) => (i, ρ x))).run P w = .ok v w) : Does P ⟨dst, .build T ps, ty, pos, aft, g⟩ ρ w v w :=
  does_run rfl (by simp only [execOp]; simp [h])
theorem litNE {α : Type} {K : Kd α} {lo hi : Nat} {T e : TypeId} {n : Nat} {z : Value} {ps : Array (Nat × Operand)} {cs : List Value} {ys : List α} (hT : P.underlying T = some (.slice e)) (hs : ∀ w, (sizeOf e).run P w = .ok K.sz w) (hz : ∀ w, (zeroValue e).run P w = .ok z w) (h24 : n * K.sz ≤ 16777216) (h0 : 0 < n * K.sz)
    (hfill : Instr.fill (fun i => some (i * K.sz, K.sz)) ((Array.range (n * K.sz)).map (z.cells[· % z.cells.size]!)) (ps.map fun (i, x) => (i, ρ x)).toList = some cs.toArray) (hr : Reps K lo hi w ys cs) (hn : ys.length = n) :
    DoesE P ⟨dst, .buildSlice T n ps, ty, pos, aft, g⟩ ρ w fun v' w' => v' = .slice (some ⟨w.heap.size, 0, none⟩) n n ∧ Sl K (min lo w.heap.size) (max hi (w.heap.size + 1)) w' (some ⟨w.heap.size, 0, none⟩) n ys ∧ Blk w' w.heap.size cs e ∧ Keep w w' ∧ w'.heap.size = w.heap.size + 1 := by
  have hB := Blk.new w cs e
  have hk := Keep.alloc w (.cells cs.toArray e)
  have hrun : (Instr.buildSlice T n (ps.map fun (i, x) => (i, ρ x))).run P w = .ok (.slice (some ⟨w.heap.size, 0, none⟩) n n) (w.alloc (.cells cs.toArray e)) := by
    have h1 : ¬ (n * K.sz > 2 ^ 24) := by omega
    have h2 : ¬ (n * K.sz = 0) := by omega
    simp only [Instr.buildSlice, Sem.run_bind, run_underlying hT, Result.andThen_ok, hs, if_neg h1, if_neg h2, hz, Sem.run_pure, hfill]
    simp [newRow]
  refine (does_run (w' := w.alloc (.cells cs.toArray e)) rfl ?_).e ⟨rfl, ?_, hB, hk, by simp⟩
  · simp only [execOp]
    simp only [Sem.run_bind, hrun, Result.andThen_ok, Sem.run_pure]
  · refine ⟨hn, by have hk1 : 1 ≤ K.sz := Nat.pos_of_ne_zero (fun e => by rw [e] at h0; omega); have := Nat.le_mul_of_pos_right n hk1; omega, fun _ => ⟨_, rfl, by simp only []; omega, by simp only []; omega, fun j x hx => ?_⟩⟩
    obtain ⟨a, ha, hq⟩ := hr.get j x hx
    refine ⟨a, K.wide (K.move ha (hk.stand fun _ _ _ => id)) Zz Zz, fun i u hu => ?_⟩
    rw [add_mk, hB.cell, Nat.zero_add]
    exact hq i u hu
end
section
variable {P : Program} {f : FuncId} {N : Nat} {rd : Option Nat} {k : List Item} {E : Env} {D : List Deferred} {w : World} {R : Out → World → Prop} {ops : Array Oper} {S : Nat → Prop} {m : Nat}
theorem opU {l : List Oper} {o : Oper} {j d : Nat} {b : Bool} (hg : o.guard = some (j, b)) (hj : (ops[j]?).bind (·.dst) = some d) (hb : E.ev (.tmp d) = undef) (hd : dstOk N o.dst = true)
    (h : Ops P f N rd ops l k (E.put o.dst undef) D w R) : Ops P f N rd ops (o :: l) k E D w R := by
  intro idx hi
  cases idx with
  | nil => simp at hi
  | cons i rest =>
    simp only [List.map_cons, List.cons.injEq] at hi
    intro kind cs tmps hc ht
    have hw : Region.wanted o (yielded ops tmps) = false := by
      have h1 : tmps.getD d undef = undef := (ht.at_ d).trans hb
      simp only [Region.wanted, hg, yielded, hj, Option.bind_some]
      by_cases hlt : d < tmps.size
      · have h2 : tmps[d]? = some undef := by
          rw [Array.getElem?_eq_getElem hlt]
          simpa [Array.getD, hlt] using h1
        rw [h2]
        rfl
      · rw [Array.getElem?_eq_none Zz]
        rfl
    obtain ⟨z, w2, r, m, h2, h3⟩ := h rest hi.2 kind cs _ hc (ht.put' o.dst undef (dstOk.lt hd))
    refine ⟨z, w2, r, m, .head (step_lone_go ?_) h2, h3⟩
    rw [← finish_region f rd kind tmps ops i rest k D o hi.1]
    simp [stepG, stepG.exec, hi.1, hw]
theorem dSkU {fuel : Nat} {listed : Array Bool} {i : Nat} {o : Oper} {j d : Nat} {b : Bool} (hr : Region.ready .any ops listed = [i]) (ho : ops[i]? = some o) (hg : o.guard = some (j, b)) (hj : (ops[j]?).bind (·.dst) = some d) (hb : E.ev (.tmp d) = undef)
    (h : Drw P f N rd ops k D R S m fuel (listed.setIfInBounds i true) (E.put o.dst undef) w) : Drw P f N rd ops k D R S m (fuel + 1) listed E w := by
  refine ⟨fun he => absurd (hr.symm.trans he) (by simp), fun q hq => ?_⟩
  rw [hr] at hq
  obtain rfl : q = i := by simpa using hq
  refine ⟨o, ho, ?_⟩
  have : E.at_ d = undef := hb
  rw [if_neg]
  · unfold Drw at h
    rw [put_upd] at h
    exact h
  · simp only [wantG, Region.wanted, hg, yieldG, hj, this]
    simp [undef]
end
section
variable {P : Program} {f : FuncId} {N : Nat} {rd : Option Nat} {k : List Item} {D : List Deferred} {R : Out → World → Prop} {S : Nat → Prop} {ops : Array Oper} {m : Nat} {E : Env} {w : World} {fuel : Nat} {listed : Array Bool} {l : List Oper} {dst : Option Tmp} {op : Op} {ty : TypeId} {pos : String} {aft : Array Edge}
theorem Zu {j d : Nat} {b : Bool} (hj : (ops[j]?).bind (·.dst) = some d) (hb : E.ev (.tmp d) = undef) (hd : dstOk N dst = true) (h : Ops P f N rd ops l k (E.put dst undef) D w R) : Ops P f N rd ops (⟨dst, op, ty, pos, aft, some (j, b)⟩ :: l) k E D w R := opU rfl hj hb hd h
theorem Zdend (hr : Region.ready .any ops listed = []) (h : Run P f N rd k E D w R) : Drw P f N rd ops k D R S m fuel listed E w := dEnd hr h
theorem ZS (i : Nat) {j d : Nat} {b : Bool} (hr : Region.ready .any ops listed = [i]) (ho : ops[i]? = some ⟨dst, op, ty, pos, aft, some (j, b)⟩) (hj : (ops[j]?).bind (·.dst) = some d) (hb : E.ev (.tmp d) = .bool (!b)) (h : Drw P f N rd ops k D R S m fuel (listed.setIfInBounds i true) (E.put dst undef) w) : Drw P f N rd ops k D R S m (fuel + 1) listed E w := dSkip hr ho rfl hj hb (by cases b <;> rfl) h
theorem ZU (i : Nat) {j d : Nat} {b : Bool} (hr : Region.ready .any ops listed = [i]) (ho : ops[i]? = some ⟨dst, op, ty, pos, aft, some (j, b)⟩) (hj : (ops[j]?).bind (·.dst) = some d) (hb : E.ev (.tmp d) = undef) (h : Drw P f N rd ops k D R S m fuel (listed.setIfInBounds i true) (E.put dst undef) w) : Drw P f N rd ops k D R S m (fuel + 1) listed E w := dSkU hr ho rfl hj hb h
end
end Go.Proofs.YtjjhddjllpihaaaGreatDoor.X
