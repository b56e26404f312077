/- Cursors: what a value that is asked again and again tells; their state lies in blocks of T, below B nothing turns. -/
import Derived.Test.YtgfficbkajcdpaaXRange
namespace Go.Proofs.Ytgfficbkajcdpaa.X
open Go
set_option linter.unusedVariables false
set_option linter.unusedSimpArgs false

/-- What lies below B and in T stands. -/
def Agree (T : Nat → Prop) (B : Nat) (w w' : World) : Prop := Ext (fun k => B ≤ k ∧ ¬ T k) w w'
theorem Agree.refl (T : Nat → Prop) (B : Nat) (w : World) : Agree T B w w := Ext.refl _ w
theorem Agree.trans {T : Nat → Prop} {B : Nat} {a b c : World} (h : Agree T B a b) (h' : Agree T B b c) : Agree T B a c := Ext.trans h h' (fun _ _ x => x) (fun _ _ x => x)
theorem Agree.of_ext {T U : Nat → Prop} {B : Nat} {w w' : World} (h : Ext U w w') (hU : ∀ k, k < w.heap.size → U k → B ≤ k ∧ ¬ T k) : Agree T B w w' := h.mono hU
theorem Agree.of_keep {T : Nat → Prop} {B : Nat} {w w' : World} (h : Keep w w') : Agree T B w w' := h.mono fun _ _ h => h.elim
theorem Agree.sub {T U : Nat → Prop} {B : Nat} {w w' : World} (h : Agree T B w w') (hU : ∀ k, U k → T k) : Agree U B w w' := Ext.mono h fun k _ hk => ⟨hk.1, fun hu => hk.2 (hU k hu)⟩
theorem Agree.blk {T : Nat → Prop} {B : Nat} {w w' : World} (h : Agree T B w w') {b : Nat} {cs : List Value} {e : TypeId} (hb : Blk w b cs e) (hT : T b) : Blk w' b cs e := hb.ext h (fun x => x.2 hT)
theorem Agree.size {T : Nat → Prop} {B : Nat} {w w' : World} (h : Agree T B w w') : w.heap.size ≤ w'.heap.size := Ext.size h

section
variable {α : Type} (P : Program) (ev : α → Value) (z : α)
def hdV (xs : List α) : Value := .tuple #[ev (xs.headD z), .bool (!xs.isEmpty)]
/-- p, asked by nx, tells xs. -/
def Cur (nx : FuncId) (B : Nat) (T : Nat → Prop) (p : Value) (xs : List α) (w : World) : Prop :=
  ∃ I : List α → World → Prop, I xs w ∧ (∀ xs w w', I xs w → Agree T B w w' → I xs w') ∧ (∀ xs w, I xs w → Ret P nx #[p] w fun r w' => r = hdV ev z xs ∧ Ext T w w' ∧ I xs.tail w')
/-- fv, called, tells xs (till it tells nothing). -/
def Stp (B : Nat) (T : Nat → Prop) (fv : Value) (xs : List α) (w : World) : Prop :=
  ∃ I : List α → World → Prop, I xs w ∧ (∀ xs w w', I xs w → Agree T B w w' → I xs w') ∧ (∀ xs w, I xs w → YC P fv [] w fun r w' => r = hdV ev z xs ∧ Ext T w w' ∧ (xs ≠ [] → I xs.tail w'))
end
section
variable {α : Type} {P : Program} {ev : α → Value} {z : α} {nx B : Nat} {T : Nat → Prop} {p fv : Value} {xs : List α} {w w' : World}
theorem Cur.agree (h : Cur P ev z nx B T p xs w) (ha : Agree T B w w') : Cur P ev z nx B T p xs w' := by
  obtain ⟨I, h1, h2, h3⟩ := h
  exact ⟨I, h2 _ _ _ h1 ha, h2, h3⟩
theorem Cur.next (h : Cur P ev z nx B T p xs w) : Ret P nx #[p] w fun r w' => r = hdV ev z xs ∧ Ext T w w' ∧ Cur P ev z nx B T p xs.tail w' := by
  obtain ⟨I, h1, h2, h3⟩ := h
  exact (h3 _ _ h1).mono fun r w' ⟨a, b, c⟩ => ⟨a, b, I, c, h2, h3⟩
theorem Cur.ext (h : Cur P ev z nx B T p xs w) {U : Nat → Prop} (x : Ext U w w') (hU : ∀ k, k < w.heap.size → U k → B ≤ k ∧ ¬ T k) : Cur P ev z nx B T p xs w' := h.agree (Agree.of_ext x hU)
theorem Cur.keep (h : Cur P ev z nx B T p xs w) (x : Keep w w') : Cur P ev z nx B T p xs w' := h.agree (Agree.of_keep x)
theorem Stp.agree (h : Stp P ev z B T fv xs w) (ha : Agree T B w w') : Stp P ev z B T fv xs w' := by
  obtain ⟨I, h1, h2, h3⟩ := h
  exact ⟨I, h2 _ _ _ h1 ha, h2, h3⟩
theorem Stp.call (h : Stp P ev z B T fv xs w) : YC P fv [] w fun r w' => r = hdV ev z xs ∧ Ext T w w' ∧ (xs ≠ [] → Stp P ev z B T fv xs.tail w') := by
  obtain ⟨I, h1, h2, h3⟩ := h
  exact (h3 _ _ h1).mono fun r w' ⟨a, b, c⟩ => ⟨a, b, fun hn => ⟨I, c hn, h2, h3⟩⟩
theorem Cur.wide (h : Cur P ev z nx B T p xs w) {U : Nat → Prop} (hU : ∀ k, T k → U k) : Cur P ev z nx B U p xs w := by
  obtain ⟨I, h1, h2, h3⟩ := h
  exact ⟨I, h1, fun xs w w' hi ha => h2 xs w w' hi (ha.sub hU), fun xs w hi => (h3 xs w hi).mono fun r w' ⟨a, b, c⟩ => ⟨a, b.mono fun k _ hk => hU k hk, c⟩⟩
theorem Stp.wide (h : Stp P ev z B T fv xs w) {U : Nat → Prop} (hU : ∀ k, T k → U k) : Stp P ev z B U fv xs w := by
  obtain ⟨I, h1, h2, h3⟩ := h
  exact ⟨I, h1, fun xs w w' hi ha => h2 xs w w' hi (ha.sub hU), fun xs w hi => (h3 xs w hi).mono fun r w' ⟨a, b, c⟩ => ⟨a, b.mono fun k _ hk => hU k hk, c⟩⟩
/-- The cursor of a step: its struct in block bm. over: what it is when it told nothing. -/
theorem Cur.made {bm : Nat} {e : TypeId} (h : Stp P ev z B T fv xs w) (hb : Blk w bm [fv, .bool false] e) (hBm : B ≤ bm) (hT : ¬ T bm) (hTb : ∀ k, T k → k < w.heap.size)
    (hover : ∀ w, Blk w bm [fv, .bool true] e → Ret P nx #[.pointer (some ⟨bm, 0, none⟩)] w fun r w' => r = hdV ev z [] ∧ Keep w w')
    (hstep : ∀ (xs : List α) (w : World) (R : World → Prop), (∀ k, T k → k < w.heap.size) → Blk w bm [fv, .bool false] e → (∀ wa, Keep w wa → YC P fv [] wa fun r wc => r = hdV ev z xs ∧ Ext T wa wc ∧ R wc) →
      Ret P nx #[.pointer (some ⟨bm, 0, none⟩)] w fun r w' => r = hdV ev z xs ∧ (∃ wc, R wc ∧ Ext T w wc ∧ Ext (fun k => k = bm ∨ w.heap.size ≤ k) wc w') ∧ Blk w' bm [fv, .bool xs.isEmpty] e) :
    Cur P ev z nx B (fun k => T k ∨ k = bm) (.pointer (some ⟨bm, 0, none⟩)) xs w := by
  refine ⟨fun xs w => ((Stp P ev z B T fv xs w ∧ Blk w bm [fv, .bool false] e) ∨ (xs = [] ∧ Blk w bm [fv, .bool true] e)) ∧ ∀ k, T k → k < w.heap.size, ⟨.inl ⟨h, hb⟩, hTb⟩, ?_, ?_⟩
  · rintro xs w w' ⟨hi, hTb⟩ ha
    have ha1 := ha.sub (U := T) fun k hk => .inl hk
    have hz := ha.size
    refine ⟨?_, fun k hk => by have := hTb k hk; omega⟩
    rcases hi with ⟨h1, h2⟩ | ⟨h1, h2⟩
    · exact .inl ⟨h1.agree ha1, ha.blk h2 (.inr rfl)⟩
    · exact .inr ⟨h1, ha.blk h2 (.inr rfl)⟩
  · rintro xs w ⟨hi, hTb⟩
    rcases hi with ⟨h1, h2⟩ | ⟨rfl, h2⟩
    · have hlt := h2.lt
      refine (hstep xs w (fun wc => xs ≠ [] → Stp P ev z B T fv xs.tail wc) hTb h2 fun wa ka => (h1.agree (Agree.of_keep ka)).call).mono ?_
      rintro r w' ⟨rfl, ⟨wc, hR, hx1, hx2⟩, hB'⟩
      have hz := Nat.le_trans hx1.size hx2.size
      refine ⟨rfl, Ext.trans hx1 hx2 (fun _ _ x => .inl x) (fun k hk x => x.elim .inr fun x => by omega), ?_, fun k hk => by have := hTb k hk; omega⟩
      cases xs with
      | nil => exact .inr ⟨rfl, hB'⟩
      | cons x xs => exact .inl ⟨(hR (by simp)).agree (Agree.of_ext hx2 fun k _ hk => hk.elim (fun e => by rw [e]; exact ⟨hBm, hT⟩) (fun e => ⟨by omega, fun ht => by have := hTb k ht; omega⟩)), hB'⟩
    · refine (hover w h2).mono ?_
      rintro r w' ⟨rfl, hk⟩
      have hz := hk.size
      exact ⟨rfl, hk.mono fun _ _ h => h.elim, .inr ⟨rfl, h2.keep hk⟩, fun k ht => by have := hTb k ht; omega⟩
/-- A cursor that tells nothing. -/
theorem Cur.none {bm : Nat} {e : TypeId} (hb : Blk w bm [fv, .bool true] e)
    (hover : ∀ w, Blk w bm [fv, .bool true] e → Ret P nx #[.pointer (some ⟨bm, 0, none⟩)] w fun r w' => r = hdV ev z [] ∧ Keep w w') :
    Cur P ev z nx B (fun k => k = bm) (.pointer (some ⟨bm, 0, none⟩)) [] w := by
  refine ⟨fun xs w => xs = [] ∧ Blk w bm [fv, .bool true] e, ⟨rfl, hb⟩, fun xs w w' h ha => ⟨h.1, ha.blk h.2 rfl⟩, ?_⟩
  rintro xs w ⟨rfl, h2⟩
  exact (hover w h2).mono fun r w' ⟨h1, hk⟩ => ⟨h1, hk.mono fun _ _ h => h.elim, rfl, h2.keep hk⟩
end

/-! ### elements: things (a byte that has a sign, and a number) -/
abbrev TH := Int × Int
abbrev evT (x : TH) : Value := .agg #[.int .i8 x.1, .int .i64 x.2]
def KTh : Kd TH := Kd.plain 2 (fun x => [.int .i8 x.1, .int .i64 x.2]) (fun _ => True) (fun _ => rfl) (fun _ u hu => by simp at hu; rcases hu with rfl | rfl <;> rfl)
theorem KTh_flat : Flat KTh := fun h => h
theorem KTh_R (lo hi : Nat) (w : World) (x : TH) : KTh.R lo hi w x [.int .i8 x.1, .int .i64 x.2] := ⟨rfl, trivial⟩
theorem repsT {w : World} (x : TH) : RepsV KTh w [x] [evT x] := ⟨⟨_, rfl, KTh_R 0 0 w x⟩, trivial⟩
section
variable {P : Program} {ρ : Operand → Value} {w : World} {dst : Option Tmp} {ty : TypeId} {pos : String} {aft : Array Edge} {g : Option (Nat × Bool)}
/-- Several cells stored somewhere in a block that is known whole. -/
theorem storeAtE {T : TypeId} {a x : Operand} {b i n : Nat} {cs vs : List Value} {e : TypeId} (hs : ∀ w, (sizeOf T).run P w = .ok n w) (hB : Blk w b cs e) (ha : ρ a = .pointer (some ⟨b, i, none⟩)) (hx : ρ x = .agg vs.toArray) (hn : vs.length = n) (hl : Nat.ble (i + n) cs.length = true) (h1 : ∀ v, v ∈ vs → v.oneCell' = true) :
    DoesE P ⟨none, .store T a x, ty, pos, aft, g⟩ ρ w fun _ w' => Blk w' b (cs.take i ++ vs ++ cs.drop (i + vs.length)) e ∧ Ext (fun k => k = b) w w' ∧ w'.heap.size = w.heap.size := by
  have hl := Nat.le_of_ble_eq_true hl
  have hst := run_storeCells_at P b i e vs 0 cs.toArray w hB (by simp; omega) h1
  simp only [Nat.add_zero] at hst
  have hB' : Blk (w.setRow b (cs.take i ++ vs ++ cs.drop (i + vs.length)).toArray) b (cs.take i ++ vs ++ cs.drop (i + vs.length)) e := by
    unfold Blk at hB ⊢
    simp only [World.setRow, Array.getElem?_modify, if_true, hB, Option.map_some]
  have hext : Ext (fun k => k = b) w (w.setRow b (cs.take i ++ vs ++ cs.drop (i + vs.length)).toArray) := ⟨rfl, rfl, rfl, by simp [World.setRow], fun k _ hk => by simp only [World.setRow, Array.getElem?_modify]; rw [if_neg (fun h => hk h.symm)]⟩
  refine (does_skip (w' := w.setRow b (cs.take i ++ vs ++ cs.drop (i + vs.length)).toArray) rfl ?_).e ⟨hB', hext, by simp [World.setRow]⟩
  simp only [execOp, ha, hx, Instr.storeAt, Instr.sureAddr, storeVar, Value.cells]
  simp [hs, hn, hst]
end
section
variable {P : Program} {f : FuncId} {N : Nat} {E : Env} {w : World} {R : Out → World → Prop}
theorem unwR2 {fn : Func} {r1 r2 : ResultVar} {v1 v2 : Value} (hf : P.funcs[f]? = some fn) (hr : fn.results = #[r1, r2]) (h1 : ResOk P E w r1 v1) (h2 : ResOk P E w r2 v2) (h : R (.ret (.tuple #[v1, v2])) w) : Unw P f N .returning E [] w R :=
  unw_ret hf (fun tmps ht => by
    rw [results_sem, hr]
    simp [h1.run ht, h2.run ht]) h
end
section
variable {P : Program} {ρ : Operand → Value} {w : World} {dst : Option Tmp} {ty : TypeId} {pos : String} {aft : Array Edge} {g : Option (Nat × Bool)}
theorem neIf0 {T T' : TypeId} {x : Operand} {ms : Array (String × TypeId)} (hT : P.underlying T = some (.interface ms)) (hx : ρ x = .nilIface) (hy : ρ (.const .nilIface) = .nilIface) : Does P ⟨dst, .binOp .neq T x (.const .nilIface) T', ty, pos, aft, g⟩ ρ w (.bool false) w :=
  does_run rfl (by
    have h1 := run_equal_nil_nil (P := P) w T (meths hT)
    simp only [execOp, hx, hy, binOp, eqGuard]
    simp [h1])
theorem neIf1 {T T' U : TypeId} {x : Operand} {v : Value} {ms : Array (String × TypeId)} (hT : P.underlying T = some (.interface ms)) (hx : ρ x = .iface U v) (hy : ρ (.const .nilIface) = .nilIface) : Does P ⟨dst, .binOp .neq T x (.const .nilIface) T', ty, pos, aft, g⟩ ρ w (.bool true) w :=
  does_run rfl (by
    have h1 := run_equal_held_nil (P := P) w T U v (meths hT)
    simp only [execOp, hx, hy, binOp, eqGuard]
    simp [h1])
theorem run_equalIn_fn1 (w : World) (d : Nat) {T : TypeId} {fn : Fn} {bs cs : Array Value} {ps rs : Array TypeId} {v : Bool} (hT : P.underlying T = some (.func ps rs v)) : (Op.equalIn (d + 1) T (.func fn bs cs) .nilFunc).run P w = .ok false w := by
  simp [Op.equalIn, run_underlying hT]
theorem run_equalIn_fn0 (w : World) (d : Nat) {T : TypeId} {ps rs : Array TypeId} {v : Bool} (hT : P.underlying T = some (.func ps rs v)) : (Op.equalIn (d + 1) T .nilFunc .nilFunc).run P w = .ok true w := by
  simp [Op.equalIn, run_underlying hT]
theorem eqFn1 {T T' : TypeId} {x : Operand} {fn : Fn} {bs cs : Array Value} {ps rs : Array TypeId} {v : Bool} (hT : P.underlying T = some (.func ps rs v)) (hx : ρ x = .func fn bs cs) (hy : ρ (.const .nilFunc) = .nilFunc) : Does P ⟨dst, .binOp .eql T x (.const .nilFunc) T', ty, pos, aft, g⟩ ρ w (.bool false) w :=
  does_run rfl (by
    have h1 : (Op.equal T (.func fn bs cs) .nilFunc).run P w = .ok false w := run_equalIn_fn1 w 9999 hT
    simp only [execOp, hx, hy, binOp, eqGuard]
    simp [h1])
theorem eqFn0 {T T' : TypeId} {x : Operand} {ps rs : Array TypeId} {v : Bool} (hT : P.underlying T = some (.func ps rs v)) (hx : ρ x = .nilFunc) (hy : ρ (.const .nilFunc) = .nilFunc) : Does P ⟨dst, .binOp .eql T x (.const .nilFunc) T', ty, pos, aft, g⟩ ρ w (.bool true) w :=
  does_run rfl (by
    have h1 : (Op.equal T .nilFunc .nilFunc).run P w = .ok true w := run_equalIn_fn0 w 9999 hT
    simp only [execOp, hx, hy, binOp, eqGuard]
    simp [h1])
end
/-- One cell. -/
theorem reps_1 {w : World} {v : Value} (h : v.oneCell' = true) (hc : v.cells = #[v]) : RepsV KR1 w [v] [v] := ⟨⟨[v], by rw [hc], rfl, h⟩, trivial⟩
theorem Mine.block {α : Type} {K : Kd α} (hF : Flat K) {e : TypeId} {S : Nat → Prop} {w : World} {v : Value} {xs : List α} (h : Mine K e S 0 0 w v xs) (hS : S w.heap.size) : ∃ b A c, S b ∧ b ≤ w.heap.size ∧ v = .slice A xs.length c ∧ xs.length ≤ c ∧ Sl K b (b + 1) w A xs.length xs := by
  obtain ⟨b, ho, hb⟩ := h
  have hlt : ∀ k, b = some k → k < w.heap.size := fun k hk => ho.lt k hk
  obtain ⟨b0, h0, h1, h2⟩ : ∃ b0, S b0 ∧ b0 ≤ w.heap.size ∧ ∀ k, b = some k → k = b0 := by
    cases b with
    | none => exact ⟨w.heap.size, hS, Nat.le_refl _, fun k h => by cases h⟩
    | some b => exact ⟨b, hb b rfl, Nat.le_of_lt (hlt b rfl), fun k h => by cases h; rfl⟩
  obtain ⟨A, c, h3, h4, h5⟩ := (ho.flat hF (lo' := b0) (hi' := b0 + 1)).sl (fun k hk => by have := h2 k hk; omega)
  exact ⟨b0, A, c, h0, h1, h3, h4, h5⟩
/-- 'c.Next()', c an interface value. -/
theorem invokeE {P : Program} {ρ : Operand → Value} {w : World} {dst : Option Tmp} {ty : TypeId} {pos : String} {aft : Array Edge} {g : Option (Nat × Bool)} {x : Operand} {name : String} {TY : TypeId} {G : FuncId} {p : Value} {tys : Array TypeId} {R' : Value → World → Prop} (hx : ρ x = .iface TY p)
    (hm : ∀ w, (method (P.types.size + Made.depth) TY p name).run P w = .ok (G, p) w) (hc : Ret P G #[p] w R') (hG : ∀ args w, (callFunc G args).run P w = .ok (.enter G args) w) :
    DoesE P ⟨dst, .call ⟨.invoke x name, #[], tys⟩, ty, pos, aft, g⟩ ρ w R' := by
  obtain ⟨v, w', hr, hs⟩ := hc.call
  refine (does_enter (g := G) (args := #[p]) rfl ?_ hs).e hr
  simp [execOp, resolve, invoke, hx, callMethod, hm, hG]
end Go.Proofs.Ytgfficbkajcdpaa.X
