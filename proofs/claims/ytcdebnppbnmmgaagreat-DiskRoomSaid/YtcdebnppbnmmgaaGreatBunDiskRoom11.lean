/- Texts that the proof of DiskRoom stands on, part 11. -/
import Derived.Lib.Overlaps
import Derived.Test.YtcdebnppbnmmgaaGreatBunDiskRoom10

namespace Go.Proofs.YtcdebnppbnmmgaaGreat.X
open Go
set_option linter.unusedVariables false
set_option linter.unusedSimpArgs false
set_option linter.unusedSectionVars false

/-! ### cells by elements -/
def Chk (sz : Nat) (ch : List (List Value)) : Prop := ∀ c, c ∈ ch → c.length = sz
section
variable {sz : Nat} {ch : List (List Value)}
theorem Chk.len : ∀ {ch : List (List Value)}, Chk sz ch → ch.flatten.length = ch.length * sz
  | [], _ => by simp
  | c :: ch, h => by rw [List.flatten_cons, List.length_append, h c List.mem_cons_self, Chk.len (fun d hd => h d (List.mem_cons_of_mem _ hd)), List.length_cons, Nat.add_mul]; omega
theorem Chk.take (h : Chk sz ch) (n : Nat) : Chk sz (ch.take n) := fun c hc => h c (List.mem_of_mem_take hc)
theorem Chk.drop (h : Chk sz ch) (n : Nat) : Chk sz (ch.drop n) := fun c hc => h c (List.mem_of_mem_drop hc)
theorem Chk.app {a b : List (List Value)} (ha : Chk sz a) (hb : Chk sz b) : Chk sz (a ++ b) := fun c hc => (List.mem_append.1 hc).elim (ha c) (hb c)
theorem Chk.take_f : ∀ {ch : List (List Value)} (n : Nat), Chk sz ch → n ≤ ch.length → ch.flatten.take (n * sz) = (ch.take n).flatten
  | _, 0, _, _ => by simp
  | [], n + 1, _, h => by simp at h
  | c :: ch, n + 1, h, hl => by
    have hc := h c List.mem_cons_self
    rw [List.flatten_cons, List.take_succ_cons, List.flatten_cons, List.take_append, List.take_of_length_le (by rw [hc, Nat.add_mul]; omega), hc, show (n + 1) * sz - sz = n * sz by rw [Nat.add_mul]; omega, Chk.take_f n (fun d hd => h d (List.mem_cons_of_mem _ hd)) (by simpa using hl)]
theorem Chk.drop_f : ∀ {ch : List (List Value)} (n : Nat), Chk sz ch → n ≤ ch.length → ch.flatten.drop (n * sz) = (ch.drop n).flatten
  | _, 0, _, _ => by simp
  | [], n + 1, _, h => by simp at h
  | c :: ch, n + 1, h, hl => by
    have hc := h c List.mem_cons_self
    rw [List.flatten_cons, List.drop_succ_cons, List.drop_append, List.drop_of_length_le (by rw [hc, Nat.add_mul]; omega), hc, show (n + 1) * sz - sz = n * sz by rw [Nat.add_mul]; omega, Chk.drop_f n (fun d hd => h d (List.mem_cons_of_mem _ hd)) (by simpa using hl), List.nil_append]
/-- Any cells, by elements. -/
theorem chunks (sz : Nat) : ∀ (c : Nat) (l : List Value), l.length = c * sz → ∃ ch, Chk sz ch ∧ ch.length = c ∧ ch.flatten = l
  | 0, l, h => ⟨[], fun c h => by simp at h, rfl, by have : l = [] := List.eq_nil_of_length_eq_zero (by omega); rw [this]; rfl⟩
  | c + 1, l, h => by
    rw [Nat.add_mul] at h
    obtain ⟨ch, h1, h2, h3⟩ := chunks sz c (l.drop sz) (by rw [List.length_drop]; omega)
    refine ⟨l.take sz :: ch, fun d hd => ?_, by simp [h2], by rw [List.flatten_cons, h3, List.take_append_drop]⟩
    rcases List.mem_cons.1 hd with rfl | hd
    · rw [List.length_take]; omega
    · exact h1 d hd
end
/-- Elements, each by its cells. -/
def RepC {α : Type} (K : Kd α) (lo hi : Nat) (w : World) : List α → List (List Value) → Prop
  | [], [] => True
  | x :: xs, c :: ch => K.R lo hi w x c ∧ RepC K lo hi w xs ch
  | _, _ => False
section
variable {α : Type} {K : Kd α} {lo hi : Nat} {w : World}
theorem RepC.len : ∀ {xs : List α} {ch : List (List Value)}, RepC K lo hi w xs ch → xs.length = ch.length
  | [], [], _ => rfl
  | _ :: _, _ :: _, h => by simp [RepC.len h.2]
  | [], _ :: _, h => h.elim
  | _ :: _, [], h => h.elim
theorem RepC.chk : ∀ {xs : List α} {ch : List (List Value)}, RepC K lo hi w xs ch → Chk K.sz ch
  | [], [], _ => fun c h => by simp at h
  | x :: xs, c :: ch, h => fun d hd => by
    rcases List.mem_cons.1 hd with rfl | hd
    · exact K.len h.1
    · exact RepC.chk h.2 d hd
  | [], _ :: _, h => h.elim
  | _ :: _, [], h => h.elim
theorem RepC.one : ∀ {xs : List α} {ch : List (List Value)}, RepC K lo hi w xs ch → ∀ u, u ∈ ch.flatten → u.oneCell' = true
  | [], [], _, u, h => by simp at h
  | x :: xs, c :: ch, h, u, hu => by
    rw [List.flatten_cons] at hu
    rcases List.mem_append.1 hu with hu | hu
    · exact K.one h.1 u hu
    · exact RepC.one h.2 u hu
  | [], _ :: _, h, _, _ => h.elim
  | _ :: _, [], h, _, _ => h.elim
theorem RepC.reps : ∀ {xs : List α} {ch : List (List Value)}, RepC K lo hi w xs ch → Reps K lo hi w xs ch.flatten
  | [], [], _ => rfl
  | x :: xs, c :: ch, h => ⟨c, ch.flatten, List.flatten_cons, h.1, RepC.reps h.2⟩
  | [], _ :: _, h => h.elim
  | _ :: _, [], h => h.elim
theorem RepC.flat (hF : Flat K) {lo' hi' : Nat} {w' : World} : ∀ {xs : List α} {ch : List (List Value)}, RepC K lo hi w xs ch → RepC K lo' hi' w' xs ch
  | [], [], _ => trivial
  | _ :: _, _ :: _, h => ⟨hF h.1, RepC.flat hF h.2⟩
  | [], _ :: _, h => h.elim
  | _ :: _, [], h => h.elim
theorem RepC.app : ∀ {xs ys : List α} {a b : List (List Value)}, RepC K lo hi w xs a → RepC K lo hi w ys b → RepC K lo hi w (xs ++ ys) (a ++ b)
  | [], _, [], _, _, h => h
  | _ :: _, _, _ :: _, _, h, h' => ⟨h.1, RepC.app h.2 h'⟩
  | [], _, _ :: _, _, h, _ => h.elim
  | _ :: _, _, [], _, h, _ => h.elim
theorem RepC.takeC : ∀ {xs : List α} {ch : List (List Value)} (n : Nat), RepC K lo hi w xs ch → RepC K lo hi w (xs.take n) (ch.take n)
  | _, _, 0, _ => by simp; trivial
  | [], [], _ + 1, _ => trivial
  | _ :: _, _ :: _, n + 1, h => ⟨h.1, RepC.takeC n h.2⟩
  | [], _ :: _, _ + 1, h => h.elim
  | _ :: _, [], _ + 1, h => h.elim
theorem RepC.dropC : ∀ {xs : List α} {ch : List (List Value)} (n : Nat), RepC K lo hi w xs ch → RepC K lo hi w (xs.drop n) (ch.drop n)
  | _, _, 0, h => h
  | [], [], _ + 1, _ => trivial
  | _ :: _, _ :: _, n + 1, h => RepC.dropC n h.2
  | [], _ :: _, _ + 1, h => h.elim
  | _ :: _, [], _ + 1, h => h.elim
theorem Reps.repC : ∀ {xs : List α} {cs : List Value}, Reps K lo hi w xs cs → ∃ ch, RepC K lo hi w xs ch ∧ ch.flatten = cs
  | [], cs, h => ⟨[], trivial, by rw [show cs = [] from h]; rfl⟩
  | x :: xs, cs, ⟨a, b, e, h1, h2⟩ => by
    obtain ⟨ch, g1, g2⟩ := Reps.repC h2
    exact ⟨a :: ch, ⟨h1, g1⟩, by rw [List.flatten_cons, g2, e]⟩
end
theorem chk_eq {sz : Nat} (h0 : 0 < sz) : ∀ {a b : List (List Value)}, Chk sz a → Chk sz b → a.flatten = b.flatten → a = b
  | [], [], _, _, _ => rfl
  | [], c :: b, _, hb, h => by
    have := congrArg List.length h
    have h2 := hb c List.mem_cons_self
    rw [List.flatten_cons, List.length_append, h2] at this
    simp only [List.flatten_nil, List.length_nil] at this; omega
  | c :: a, [], ha, _, h => by
    have := congrArg List.length h
    have h2 := ha c List.mem_cons_self
    rw [List.flatten_cons, List.length_append, h2] at this
    simp only [List.flatten_nil, List.length_nil] at this; omega
  | c :: a, d :: b, ha, hb, h => by
    rw [List.flatten_cons, List.flatten_cons] at h
    obtain ⟨e1, e2⟩ := List.append_inj h (by rw [ha c List.mem_cons_self, hb d List.mem_cons_self])
    rw [e1, chk_eq h0 (fun x hx => ha x (List.mem_cons_of_mem _ hx)) (fun x hx => hb x (List.mem_cons_of_mem _ hx)) e2]
/-- A row whose block is known whole. -/
structure Full {α : Type} (K : Kd α) (e : TypeId) (w : World) (b n c : Nat) (ch : List (List Value)) (xs : List α) : Prop where
  blk : Blk w b ch.flatten e
  chk : Chk K.sz ch
  len : ch.length = c
  cap : c ≤ maxLen
  le : n ≤ c
  rep : RepC K 0 0 w xs (ch.take n)
  pos : 0 < K.sz
section
variable {α : Type} {K : Kd α} {e : TypeId} {S : Nat → Prop} {w w' : World} {b n c : Nat} {ch : List (List Value)} {xs : List α}
theorem Full.xlen (h : Full K e w b n c ch xs) : xs.length = n := by rw [h.rep.len, List.length_take, h.len]; exact Nat.min_eq_left h.le
theorem Mine.full {A : Option Addr} (hp : 0 < K.sz) (h : Mine K e S 0 0 w (.slice A n c) xs) : (n = 0 ∧ c = 0 ∧ A = none ∧ xs = []) ∨ ∃ b ch, A = some ⟨b, 0, none⟩ ∧ S b ∧ Full K e w b n c ch xs := by
  obtain ⟨q, ⟨⟨cs, hr, ho⟩, hb⟩, hS⟩ := h
  rcases ho.2 with ⟨h0, h1⟩ | ⟨g, cap, cur, he, hg, hh, hnc, hcm, hcs, htk⟩
  · injection h0 with e1 e2 e3
    exact .inl ⟨e2, e3, e1, List.eq_nil_of_length_eq_zero h1⟩
  · injection he with e1 e2 e3
    subst e1 e3
    obtain ⟨ch, h1, h2, h3⟩ := chunks K.sz c cur.toList (by simpa using hcs)
    obtain ⟨ch2, g1, g2⟩ := hr.repC
    have hlen : xs.length = n := e2.symm
    have e4 : ch.take n = ch2 := chk_eq hp (h1.take n) g1.chk (by rw [← Chk.take_f n h1 (by omega), h3, g2, ← htk, hlen])
    refine .inr ⟨g, ch, rfl, hS g (by rw [← hb]; rfl), ⟨by unfold Blk; rw [h3]; simpa using hh, h1, h2, hcm, by omega, by rw [e4]; exact g1, hp⟩⟩
theorem Full.mine (h : Full K e w b n c ch xs) (hS : S b) : Mine K e S 0 0 w (.slice (some ⟨b, 0, none⟩) n c) xs := by
  have hx := h.xlen
  have hl := h.chk.len
  rw [h.len] at hl
  refine ⟨some b, ⟨⟨(ch.take n).flatten, h.rep.reps, ?_⟩, rfl⟩, fun k hk => by cases hk; exact hS⟩
  refine ⟨by rw [(h.chk.take n).len, List.length_take, h.len, Nat.min_eq_left h.le, hx], .inr ⟨b, c, ch.flatten.toArray, by rw [hx], Nat.zero_le _, h.blk, by rw [hx]; exact h.le, h.cap, by simpa using hl, ?_⟩⟩
  rw [hx]
  simp only [List.toList_toArray]
  exact Chk.take_f n h.chk (by rw [h.len]; exact h.le)
theorem Full.cut (h : Full K e w b n c ch xs) (m : Nat) (hm : m ≤ n) : Full K e w b m c ch (xs.take m) :=
  ⟨h.blk, h.chk, h.len, h.cap, Nat.le_trans hm h.le, by have := h.rep.takeC m; rwa [List.take_take, Nat.min_eq_left hm] at this, h.pos⟩
theorem Full.ext (hF : Flat K) (h : Full K e w b n c ch xs) {T : Nat → Prop} (x : Ext T w w') (hT : ¬ T b) : Full K e w' b n c ch xs :=
  ⟨h.blk.ext x hT, h.chk, h.len, h.cap, h.le, h.rep.flat hF, h.pos⟩
/-- A part of it, read. -/
theorem Full.sl (hF : Flat K) (h : Full K e w b n c ch xs) (i : Nat) (hi : i ≤ n) : Sl K b (b + 1) w (some ⟨b, i * K.sz, none⟩) (n - i) (xs.drop i) := by
  have hx := h.xlen
  have hcm := h.cap
  have hle := h.le
  refine ⟨by rw [List.length_drop, hx], by simp only [maxLen] at hcm; omega, fun hn => ⟨_, rfl, Nat.le_refl _, Nat.lt_succ_self _, fun j y hy => ?_⟩⟩
  rw [List.getElem?_drop] at hy
  have hrr := (h.rep.flat hF (lo' := b) (hi' := b + 1) (w' := w)).reps
  obtain ⟨a, ha, hq⟩ := hrr.get (i + j) y hy
  refine ⟨a, ha, fun k u hu => ?_⟩
  have h1 := hq k u hu
  rw [add_mk, h.blk.cell]
  rw [← Chk.take_f n h.chk (by rw [h.len]; exact hle), List.getElem?_take] at h1
  split at h1
  · rw [← h1]; congr 1; rw [Nat.add_mul]; omega
  · cases h1
end
section
variable {P : Program} {ρ : Operand → Value} {w : World} {dst : Option Tmp} {ty : TypeId} {pos : String} {aft : Array Edge} {g : Option (Nat × Bool)}
variable {α : Type} {K : Kd α} {e T : TypeId}
theorem splice_f {sz : Nat} {ch zs : List (List Value)} (h : Chk sz ch) (hz : Chk sz zs) (p : Nat) (hp : p + zs.length ≤ ch.length) : ch.flatten.take (p * sz) ++ zs.flatten ++ ch.flatten.drop (p * sz + zs.flatten.length) = (ch.take p ++ zs ++ ch.drop (p + zs.length)).flatten := by
  rw [Chk.take_f p h (by omega), hz.len, ← Nat.add_mul, Chk.drop_f _ h hp]; simp
theorem Blk.splice {b : Nat} {cs cs' : List Value} (h : Blk w b cs e) : Blk (w.setRow b cs'.toArray) b cs' e := by
  unfold Blk at h ⊢
  simp only [World.setRow, Array.getElem?_modify, if_true, h, Option.map_some]
theorem Ext.setRow (w : World) (b : Nat) (cs : Array Value) : Ext (fun k => k = b) w (w.setRow b cs) := ⟨rfl, rfl, rfl, by simp [World.setRow], fun k _ hk => by simp only [World.setRow, Array.getElem?_modify]; rw [if_neg (fun h => hk h.symm)]⟩
/-- 'copy(d, s)': m elements into a block that is known whole, from element p on. -/
theorem copyE {x y : Operand} {b p dn dc sn sc m : Nat} {ch : List (List Value)} {A : Option Addr} {ys : List α} {lo hi : Nat} {U : TypeId} (hF : Flat K) (hT : P.underlying T = some (.slice e)) (hs : ∀ w, (sizeOf e).run P w = .ok K.sz w) (hx : ρ x = .slice (some ⟨b, p * K.sz, none⟩) dn dc) (hy : ρ y = .slice A sn sc)
    (hm0 : m = min sn dn) (hB : Blk w b ch.flatten e) (hc : Chk K.sz ch) (hfit : p + m ≤ ch.length) (hS : Sl K lo hi w A m ys) :
    DoesE P ⟨dst, .call ⟨.builtin .copy, #[x, y], #[T, U]⟩, ty, pos, aft, g⟩ ρ w fun v w' => ∃ zs, v = .int .i64 (m : Int) ∧ RepC K 0 0 w ys zs ∧ Blk w' b (ch.take p ++ zs ++ ch.drop (p + m)).flatten e ∧ Chk K.sz (ch.take p ++ zs ++ ch.drop (p + m)) ∧ Ext (fun k => k = b) w w' ∧ w'.heap.size = w.heap.size := by
  have hm : m = Nat.min sn dn := hm0
  obtain ⟨cs, hr, hcell⟩ := hS.reps
  obtain ⟨zs, h1, h2⟩ := (hr.flat hF (lo' := 0) (hi' := 0) (w' := w)).repC
  have hzl : zs.length = m := by rw [← h1.len]; exact hS.len
  have hzc := h1.chk
  have hcl : cs.length = m * K.sz := by rw [← h2, hzc.len, hzl]
  have hfit2 : p * K.sz + cs.length ≤ ch.flatten.length := by rw [hcl, hc.len, ← Nat.add_mul]; exact Nat.mul_le_mul_right _ hfit
  have hst := run_storeCells_at P b (p * K.sz) e cs 0 ch.flatten.toArray w hB (by simpa using hfit2) hr.one
  simp only [Nat.add_zero, List.toList_toArray] at hst
  have e1 : ch.flatten.take (p * K.sz) ++ cs ++ ch.flatten.drop (p * K.sz + cs.length) = (ch.take p ++ zs ++ ch.drop (p + m)).flatten := by
    rw [← h2, splice_f hc hzc p (by omega), hzl]
  rw [e1] at hst
  refine (does_run (v := .int .i64 (m : Int)) (w' := w.setRow b ((ch.take p ++ zs ++ ch.drop (p + m)).flatten).toArray) rfl ?_).e ⟨zs, rfl, h1, Blk.splice hB, (((hc.take p).app hzc).app (hc.drop _)), Ext.setRow w b _, by simp [World.setRow]⟩
  have hfc : (Builtin.firstCells K.sz m (.slice A sn sc)).run P w = .ok cs.toArray w := by
    cases A with
    | none =>
      have : m = 0 := by
        rcases Nat.eq_zero_or_pos m with h | h
        · exact h
        · obtain ⟨ad, q, _⟩ := hS.at_ h
          cases q
      have hcs : cs = [] := List.eq_nil_of_length_eq_zero (by rw [hcl, this]; simp)
      rw [hcs]; rfl
    | some a =>
      have := run_loadCells_list (P := P) w a cs (fun j u hu => hcell a rfl j u hu)
      rw [hcl] at this
      simpa [Builtin.firstCells] using this
  simp only [execOp, resolve, invoke, builtin, List.map_toArray, List.map_cons, List.map_nil, hx, hy]
  simp [Builtin.copy_, run_underlying hT, Builtin.lenOf, hs, ← hm, hfc, hst, goInt]
/-- 's[i:j:k]'. -/
theorem cut3E {x l h mx : Operand} {sz : Nat} {A : Option Addr} {n c : Nat} {kl kh km : IntKind} {p q r : Int} (hT : P.underlying T = some (.slice e)) (hs : ∀ w, (sizeOf e).run P w = .ok sz w) (hx : ρ x = .slice A n c) (hl : ρ l = .int kl p) (hh : ρ h = .int kh q) (hm : ρ mx = .int km r) (h0 : 0 ≤ p ∧ p ≤ q ∧ q ≤ r ∧ r ≤ (c : Int)) :
    Does P ⟨dst, .slice T x (some l) (some h) (some mx), ty, pos, aft, g⟩ ρ w (.slice (if r.toNat = p.toNat then A else A.map (·.add (p.toNat * sz))) (q.toNat - p.toNat) (r.toNat - p.toNat)) w :=
  does_run rfl (by
    have := run_slice_lhm (P := P) w T A n c (elem_eq hT) kl kh km p q r h0.1 h0.2.1 h0.2.2.1 h0.2.2.2
    simp [execOp, hx, hl, hh, hm, run_sliceAt_slice _ _ _ _ _ _ (elem_eq hT), this, elem_is hT, hs, sliced, Result.andThen])
end
end Go.Proofs.YtcdebnppbnmmgaaGreat.X

namespace Go.Proofs.YtcdebnppbnmmgaaGreat.X
open Go
set_option linter.unusedSimpArgs false
set_option linter.unusedVariables false
set_option linter.unusedSectionVars false
/-- A call that the kit tells of: by an ordinary caller. -/
def RetN (P : Program) (f : FuncId) (args : Array Value) (w : World) (R : Value → World → Prop) : Prop :=
  ∀ cs, ∃ v w', R v w' ∧ ∃ fr, Steps P (lone (Frame.enter P f args .normal) cs w) (lone fr cs w') ∧ Left P f .normal fr w' (.ret v)
theorem Ret.n {P : Program} {f : FuncId} {args : Array Value} {w : World} {R : Value → World → Prop} (h : Ret P f args w R) : RetN P f args w R := h.call .normal
theorem RetN.mono {P : Program} {f : FuncId} {args : Array Value} {w : World} {R R' : Value → World → Prop} (h : RetN P f args w R) (hr : ∀ v w', R v w' → R' v w') : RetN P f args w R' :=
  fun cs => let ⟨v, w', r, s⟩ := h cs; ⟨v, w', hr _ _ r, s⟩
theorem RetN.of {P : Program} {f : FuncId} {args : Array Value} {w : World} {R : Ending → World → Prop} {R' : Value → World → Prop} (h : Calls P f args w R) (hr : ∀ e w', R e w' → ∃ v, e = .returned v ∧ R' v w') : RetN P f args w R' := by
  intro cs
  obtain ⟨e, w', fr, r, hc, hf, hl⟩ := h cs
  obtain ⟨v, rfl, hv⟩ := hr e w' r
  obtain ⟨h1, h2, h3, fn, h4, h5⟩ := hl
  exact ⟨v, w', hv, fr, hc, h1, h2, h3, hf, fn, hf ▸ h4, h5⟩
section
variable {P : Program} {ρ : Operand → Value} {w : World} {dst : Option Tmp} {ty : TypeId} {pos : String} {aft : Array Edge} {g : Option (Nat × Bool)}
theorem callNE {G : FuncId} {xs : List Operand} {tys : Array TypeId} {vs : List Value} {R' : Value → World → Prop} (hc : RetN P G vs.toArray w R') (hG : ∀ args w, (callFunc G args).run P w = .ok (.enter G args) w) (hv : xs.map ρ = vs) (hf : ρ (.func G) = .func (.func G) #[] #[]) :
    DoesE P ⟨dst, .call ⟨.value (.func G), xs.toArray, tys⟩, ty, pos, aft, g⟩ ρ w R' := by
  refine does_enter (g := G) (args := vs.toArray) rfl ?_ hc
  simp [execOp, resolve, hf, Deferred.ofValue, invoke, hG, ← hv]
/-- A call of a function that has no body here, and turns the world. -/
theorem externWE {G : FuncId} {fn : Func} {ex : Array Value → Sem Value} {xs : List Operand} {tys : Array TypeId} {vs : List Value} {v : Value} {w' : World} (hf : P.funcs[G]? = some fn) (hname : (fn.name == "runtime.NumGoroutine") = false) (hb : fn.body.isNone = true) (hn : Extern.findNext fn = none) (he : Extern.find fn = some ex)
    (hv : xs.map ρ = vs) (hg : ρ (.func G) = .func (.func G) #[] #[]) (h : (ex vs.toArray).run P w = .ok v w') : Does P ⟨dst, .call ⟨.value (.func G), xs.toArray, tys⟩, ty, pos, aft, g⟩ ρ w v w' :=
  does_run rfl (by
    have h2 := run_callFunc_extern (P := P) hf hname hb hn he vs.toArray w
    rw [h] at h2
    simp [execOp, resolve, hg, Deferred.ofValue, invoke, hv, h2, Result.andThen])
theorem eqMap1 {T T' K E : TypeId} {b : Nat} {x : Operand} (hT : P.underlying T = some (.map K E)) (hx : ρ x = .map (some b)) (hy : ρ (.const (.map none)) = .map none) : Does P ⟨dst, .binOp .eql T x (.const (.map none)) T', ty, pos, aft, g⟩ ρ w (.bool false) w :=
  does_run rfl (by
    have h1 : (Op.equal T (.map (some b)) (.map none)).run P w = .ok false w := run_equalIn_map1 w 9999 hT
    simp only [execOp, hx, hy, binOp, eqGuard]
    simp [h1])
theorem tAssertF {T U : TypeId} {x : Operand} {v : Value} {d : TypeDesc} (hT : P.underlying T = some d) (hd : (match d with | .interface _ => false | _ => true) = true) (hx : ρ x = .iface T v) : Does P ⟨dst, .typeAssert x U T false, ty, pos, aft, g⟩ ρ w v w :=
  does_run rfl (by
    cases d <;> first | (cases hd; done) | simp [execOp, hx, Instr.typeAssert, run_underlying hT])
/-- maps.clone. -/
theorem run_mapClone {κ : Type} {enc : κ → Value} {b : Nat} {m : List (κ × Value)} {t : TypeId} (h : Mp enc w b m) : ∃ w', (Extern.MapsClone.clone #[.iface t (.map (some b))]).run P w = .ok (.iface t (.map (some w.heap.size))) w' ∧ Mp enc w' w.heap.size m ∧ Keep w w' ∧ w'.heap.size = w.heap.size + 1 := by
  obtain ⟨es, ck, h1, h2⟩ := h.ex
  refine ⟨w.alloc (.map es ck), ?_, ⟨⟨es, ck, heap_alloc_new w _, h2⟩, h.nodup⟩, Keep.alloc w _, by simp⟩
  have e : Extern.MapsClone.clone #[.iface t (.map (some b))] = (getObj b >>= fun o => match o with
    | .map entries clock => newObj (.map entries clock) >>= fun r => pure (.iface t (.map (some r)))
    | _ => stuck "maps.clone: a map expected") := rfl
  rw [e]
  simp only [getObj, Sem.run_bind, Sem.run, h1, Result.andThen]
  rfl
end
/-- A map being ranged over; the last key may be gone. -/
structure ItW {κ : Type} (enc : κ → Value) (w : World) (r b : Nat) (m : List (κ × Value)) (ds : List κ) : Prop where
  ex : ∃ (es : Array MapEntry) (ck since c0 : Nat) (seen : Array Nat), w.heap[r]? = some (.mapIter (some b) since seen c0) ∧ w.heap[b]? = some (.map es ck) ∧ es.toList.map (fun e => (e.key, e.val)) = m.map (fun p => (enc p.1, p.2)) ∧ (∀ e ∈ es.toList, e.born < since) ∧ since ≤ c0 ∧ since ≤ ck ∧ (es.toList.map (·.born)).Nodup ∧ (∀ (i : Nat) e p, es.toList[i]? = some e → m[i]? = some p → (seen.contains e.born = true ↔ p.1 ∈ ds))
  nodup : (m.map (·.1)).Nodup
section
variable {P : Program} {ρ : Operand → Value} {w w' : World} {dst : Option Tmp} {ty : TypeId} {pos : String} {aft : Array Edge} {g : Option (Nat × Bool)}
variable {κ : Type} [DecidableEq κ] {enc : κ → Value} {r b : Nat} {m : List (κ × Value)} {ds : List κ} {T K E : TypeId}
theorem It.weak (h : It enc w r b m ds) : ItW enc w r b m ds := ⟨let ⟨es, ck, since, c0, seen, h1, h2, h3, h4, h5, h6, h7, h8, _⟩ := h.ex; ⟨es, ck, since, c0, seen, h1, h2, h3, h4, h5, h6, h7, h8⟩, h.nodup⟩
theorem ItW.ext (h : ItW enc w r b m ds) {U : Nat → Prop} (x : Ext U w w') (hr : ¬ U r) (hb : ¬ U b) : ItW enc w' r b m ds :=
  ⟨let ⟨es, ck, since, c0, seen, h1, h2, h3⟩ := h.ex; ⟨es, ck, since, c0, seen, (x.keep r (lt_of_block h1) hr).trans h1, (x.keep b (lt_of_block h2) hb).trans h2, h3⟩, h.nodup⟩
theorem ItW.keep (h : ItW enc w r b m ds) (x : Keep w w') : ItW enc w' r b m ds := h.ext x id id
theorem It.mp (h : It enc w r b m ds) : Mp enc w b m :=
  ⟨let ⟨es, ck, since, c0, seen, h1, h2, h3, h4, h5, h6, h7, _⟩ := h.ex; ⟨es, ck, h2, h3, fun e he => Nat.lt_of_lt_of_le (h4 e he) h6, h7⟩, h.nodup⟩
theorem ItW.mp (h : ItW enc w r b m ds) : Mp enc w b m :=
  ⟨let ⟨es, ck, since, c0, seen, h1, h2, h3, h4, h5, h6, h7, _⟩ := h.ex; ⟨es, ck, h2, h3, fun e he => Nat.lt_of_lt_of_le (h4 e he) h6, h7⟩, h.nodup⟩
theorem ItW.lt (h : ItW enc w r b m ds) : r < w.heap.size := let ⟨_, _, _, _, _, h, _⟩ := h.ex; lt_of_block h
/-- The next entry. -/
theorem nextWE {x : Operand} (hI : ItW enc w r b m ds) (hx : ρ x = .pointer (some ⟨r, 0, none⟩)) : DoesE P ⟨dst, .next x false, ty, pos, aft, g⟩ ρ w fun v w' => (v = .tuple #[.bool false] ∧ (∀ p, p ∈ m → p.1 ∈ ds) ∧ w' = w) ∨ ∃ p, p ∈ m ∧ p.1 ∉ ds ∧ v = .tuple #[.bool true, enc p.1, p.2] ∧ It enc w' r b m (p.1 :: ds) ∧ Ext (fun q => q = r) w w' ∧ w'.heap.size = w.heap.size := by
  obtain ⟨es, ck, since, c0, seen, h1, h2, h3, h4, h5, h5b, h6, h7⟩ := hI.ex
  have hlen : es.toList.length = m.length := by have := congrArg List.length h3; simpa using this
  have hrl := lt_of_block h1
  rcases run_next_at (P := P) w ty r b since c0 seen es ck h1 h2 h4 h5 with ⟨h9, h10⟩ | ⟨e, he, w1, hal, h10⟩
  · refine (does_run (v := .tuple #[.bool false]) (w' := w) rfl (by simp only [execOp, hx]; rw [Sem.run_bind, h10]; rfl)).e (.inl ⟨rfl, fun p hp => ?_, rfl⟩)
    obtain ⟨i, hi⟩ := List.getElem?_of_mem hp
    have hil : i < es.toList.length := by rw [hlen]; exact (List.getElem?_eq_some_iff.1 hi).1
    exact (h7 i _ p (List.getElem?_eq_getElem hil) hi).1 (all_seen es seen h9 _ (List.getElem_mem hil))
  · obtain ⟨hem, hsn⟩ := mem_left he
    obtain ⟨i, hi⟩ := List.getElem?_of_mem hem
    obtain ⟨p, hp, hk, hv⟩ := getP h3 hi
    rw [hk, hv] at h10
    have hheap : w1.heap = w.heap := by rcases hal with rfl | rfl <;> rfl
    have hsz : w1.heap.size = w.heap.size := by rw [hheap]
    have hget : ∀ k, k ≠ r → (w1.heap.setIfInBounds r (.mapIter (some b) since (seen.push e.born) ck))[k]? = w.heap[k]? := fun k hk => by
      rw [Array.getElem?_setIfInBounds, if_neg (fun h => hk h.symm), hheap]
    have hbr : b ≠ r := fun h => by rw [h] at h2; rw [h1] at h2; cases h2
    refine (does_run (v := .tuple #[.bool true, enc p.1, p.2]) (w' := _) rfl (by simp only [execOp, hx]; rw [Sem.run_bind, h10]; rfl)).e (.inr ⟨p, List.mem_of_getElem? hp, fun hd => ?_, rfl, ⟨⟨es, ck, since, ck, seen.push e.born, ?_, (hget b hbr).trans h2, h3, h4, h5b, h5b, h6, fun j f q hf hq => ?_, fun k t hkt => ?_⟩, hI.nodup⟩, ⟨?_, ?_, ?_, by simp [hsz], fun k hk hn => hget k hn⟩, by simp [hsz]⟩)
    · have := (h7 i e p hi hp).2 hd
      rw [this] at hsn; cases hsn
    · show (w1.heap.setIfInBounds r _)[r]? = _
      rw [Array.getElem?_setIfInBounds, if_pos rfl, if_pos (by rw [hsz]; exact hrl)]
    · rw [contains_push, Bool.or_eq_true, List.mem_cons, h7 j f q hf hq, beq_iff_eq]
      constructor
      · rintro (h | h)
        · exact .inr h
        · have : f = e := born_inj h6 (List.mem_of_getElem? hf) hem h
          subst this
          have hij : i = j := by
            have a1 : (es.toList.map (·.born))[i]? = some f.born := by rw [List.getElem?_map, hi]; rfl
            have a2 : (es.toList.map (·.born))[j]? = some f.born := by rw [List.getElem?_map, hf]; rfl
            exact (List.getElem?_inj (List.getElem?_eq_some_iff.1 a1).1 h6).1 (a1.trans a2.symm)
          subst hij
          rw [hp] at hq; cases hq
          exact .inl rfl
      · rintro (h | h)
        · right
          have hij : i = j := by
            have a1 : (m.map (·.1))[i]? = some p.1 := by rw [List.getElem?_map, hp]; rfl
            have a2 : (m.map (·.1))[j]? = some p.1 := by rw [List.getElem?_map, hq, ← h]; rfl
            exact (List.getElem?_inj (List.getElem?_eq_some_iff.1 a1).1 hI.nodup).1 (a1.trans a2.symm)
          subst hij
          rw [hi] at hf; cases hf; rfl
        · exact .inl h
    · cases hkt
      exact ⟨i, e, p, seen, hi, hp, rfl, rfl, rfl⟩
    · rcases hal with rfl | rfl <;> rfl
    · rcases hal with rfl | rfl <;> rfl
    · rcases hal with rfl | rfl <;> rfl
theorem erase_at {α : Type} {l : List α} {j i : Nat} {x : α} (h : (l.eraseIdx j)[i]? = some x) : ∃ i', l[i']? = some x ∧ i' = (if i < j then i else i + 1) := by
  rw [List.getElem?_eraseIdx] at h
  split at h
  · exact ⟨i, h, by rw [if_pos (by assumption)]⟩
  · exact ⟨i + 1, h, by rw [if_neg (by assumption)]⟩
/-- 'delete(m, k)' in a round of a range over m. -/
theorem deleteItE {M x : Operand} {a : κ} {tx : TypeId} (hT : P.underlying T = some (.map K E)) (hK : KeyT P K enc) (hI : ItW enc w r b m ds) (ha : a ∈ ds) (hm : ρ M = .map (some b)) (hx : ρ x = enc a) : DoesE P ⟨dst, .call ⟨.builtin .delete, #[M, x], #[T, tx]⟩, ty, pos, aft, g⟩ ρ w fun v w' => v = .tuple #[] ∧ ItW enc w' r b (del a m) ds ∧ Ext (fun k => k = b) w w' ∧ w'.heap.size = w.heap.size := by
  obtain ⟨es, ck, since, c0, seen, h0, h1, h2, h3, h5, h5b, h4, h7⟩ := hI.ex
  have hf := hK.find a m es.toList w h2
  have hc := hK.check es.isEmpty a w
  have hlt := lt_of_block h1
  have hbr : r ≠ b := fun h => by rw [h] at h0; rw [h1] at h0; cases h0
  rcases fnd_spec a m 0 with ⟨q1, _, q3, _, _⟩ | ⟨j, u, q1, q2, _, q4, _⟩
  · rw [q1] at hf
    refine (does_run (w' := { w with heap := w.heap.setIfInBounds b (.map es ck) }) (v := .tuple #[]) rfl ?_).e ⟨rfl, ⟨⟨es, ck, since, c0, seen, ((Ext.setMap w b _).keep r (lt_of_block h0) hbr).trans h0, setMap_at hlt _, by rw [q3]; exact h2, h3, h5, h5b, h4, by rw [q3]; exact h7⟩, by rw [q3]; exact hI.nodup⟩, Ext.setMap w b _, by simp⟩
    simp [execOp, resolve, invoke, builtin, Builtin.delete_, run_underlying hT, hm, hx, MapKept.run_getObj_map h1, hc, hf, MapKept.run_setObj_map _ h1]
  · rw [q1] at hf
    simp only [Nat.zero_add] at hf
    have he : (es.eraseIdxIfInBounds j).toList = es.toList.eraseIdx j := by simp
    refine (does_run (w' := { w with heap := w.heap.setIfInBounds b (.map (es.eraseIdxIfInBounds j) ck) }) (v := .tuple #[]) rfl ?_).e ⟨rfl, ⟨⟨_, ck, since, c0, seen, ((Ext.setMap w b _).keep r (lt_of_block h0) hbr).trans h0, setMap_at hlt _, ?_, ?_, h5, h5b, ?_, ?_⟩, del_nodup hI.nodup⟩, Ext.setMap w b _, by simp⟩
    · simp [execOp, resolve, invoke, builtin, Builtin.delete_, run_underlying hT, hm, hx, MapKept.run_getObj_map h1, hc, hf, MapKept.run_setObj_map _ h1]
    · rw [he, q4, map_erase, map_erase, h2]
    · intro e h6
      rw [he] at h6
      exact h3 e (List.mem_of_mem_eraseIdx h6)
    · rw [he, map_erase]
      exact h4.sublist (List.eraseIdx_sublist _ _)
    · intro i e p h8 h9
      rw [he] at h8
      rw [q4] at h9
      obtain ⟨i1, h10, e1⟩ := erase_at h8
      obtain ⟨i2, h11, e2⟩ := erase_at h9
      have : i1 = i2 := by rw [e1, e2]
      subst this
      exact h7 i1 e p h10 h11
end
/-- A row of the call's own, to be read. -/
theorem Mine.rd {α : Type} {K : Kd α} {e : TypeId} {S : Nat → Prop} {w : World} {A : Option Addr} {n c : Nat} {xs : List α} (hF : Flat K) (h : Mine K e S 0 0 w (.slice A n c) xs) : n ≤ c ∧ Sl K 0 w.heap.size w A n xs := by
  obtain ⟨A', c', he, hc, hs⟩ := h.slF hF 0 (fun _ _ => Nat.zero_le _)
  injection he with h1 h2 h3
  subst h1 h2 h3
  exact ⟨hc, hs⟩
section
variable {P : Program} {ρ : Operand → Value} {w : World} {dst : Option Tmp} {ty : TypeId} {pos : String} {aft : Array Edge} {g : Option (Nat × Bool)}
/-- 'min(a, b)', 'max(a, b)'. -/
theorem minII {s x : Operand} {ts : Array TypeId} {k k' : IntKind} {a b : Int} (hs : ρ s = .int k a) (hx : ρ x = .int k' b) : Does P ⟨dst, .call ⟨.builtin .min, #[s, x], ts⟩, ty, pos, aft, g⟩ ρ w (.int k (if b < a then b else a)) w :=
  does_run rfl (by simp only [execOp, resolve, invoke, builtin, List.map_toArray, List.map_cons, List.map_nil, hs, hx]; simp [Builtin.min_, Builtin.min2])
theorem maxII {s x : Operand} {ts : Array TypeId} {k k' : IntKind} {a b c : Int} (hs : ρ s = .int k a) (hx : ρ x = .int k' b) (hc : (if b > a then b else a) = c) : Does P ⟨dst, .call ⟨.builtin .max, #[s, x], ts⟩, ty, pos, aft, g⟩ ρ w (.int k c) w :=
  does_run rfl (by subst hc; simp only [execOp, resolve, invoke, builtin, List.map_toArray, List.map_cons, List.map_nil, hs, hx]; simp [Builtin.max_, Builtin.max2])
end
end Go.Proofs.YtcdebnppbnmmgaaGreat.X

namespace Go.Proofs.YtcdebnppbnmmgaaGreat.X
open Go
set_option linter.unusedSimpArgs false
set_option linter.unusedVariables false
section
variable {P : Program} {ρ : Operand → Value} {w : World} {dst : Option Tmp} {ty : TypeId} {pos : String} {aft : Array Edge} {g : Option (Nat × Bool)}
variable {α : Type} {K : Kd α} {e T : TypeId} {S : Nat → Prop}
theorem copyM {x y : Operand} {p n c m c2 : Nat} {A A2 : Option Addr} {xs ys : List α} {lo hi : Nat} {U : TypeId} (hF : Flat K) (hp : 0 < K.sz) (hT : P.underlying T = some (.slice e)) (hs : ∀ w, (sizeOf e).run P w = .ok K.sz w)
    (hx : ρ x = .slice (if p + m = p then A else A.map (·.add (p * K.sz))) m m) (hy : ρ y = .slice A2 m c2) (hM : Mine K e S 0 0 w (.slice A n c) xs) (hpm : p + m ≤ n) (hS : Sl K lo hi w A2 m ys) :
    DoesE P ⟨dst, .call ⟨.builtin .copy, #[x, y], #[T, U]⟩, ty, pos, aft, g⟩ ρ w fun v w' => v = .int .i64 (m : Int) ∧ Mine K e S 0 0 w' (.slice A n c) (xs.take p ++ ys ++ xs.drop (p + m)) ∧ Ext S w w' ∧ w'.heap.size = w.heap.size := by
  have hyl := hS.len
  rcases Nat.eq_zero_or_pos m with h0 | h0
  · subst h0
    have hys : ys = [] := List.eq_nil_of_length_eq_zero hyl
    subst hys
    refine (does_run (v := .int .i64 ((0 : Nat) : Int)) (w' := w) rfl ?_).e ⟨rfl, ?_, Ext.refl _ _, rfl⟩
    · have hfc : (Builtin.firstCells K.sz 0 (.slice A2 0 c2)).run P w = .ok #[] w := by
        cases A2 with
        | none => rfl
        | some a =>
          have := run_loadCells_list (P := P) w a [] (fun j u hu => by simp at hu)
          simpa [Builtin.firstCells] using this
      simp only [execOp, resolve, invoke, builtin, List.map_toArray, List.map_cons, List.map_nil, hx, hy]
      cases A with
      | none => simp [Builtin.copy_, run_underlying hT, Builtin.lenOf, hs, hfc, goInt, storeCells]
      | some a => simp [Builtin.copy_, run_underlying hT, Builtin.lenOf, hs, hfc, goInt, storeCells]
    · simpa using hM
  · rcases hM.full hp with ⟨h1, _⟩ | ⟨b, ch, rfl, hSb, hFu⟩
    · omega
    have hcl := hFu.len
    have hle := hFu.le
    have hx2 : ρ x = .slice (some ⟨b, p * K.sz, none⟩) m m := by
      rw [hx, if_neg (by omega)]
      simp [add_mk]
    refine (copyE (m := m) hF hT hs hx2 hy (by simp) hFu.blk hFu.chk (by omega) hS).mono ?_
    rintro v w' ⟨zs, h1, h2, h3, h4, h5, h6⟩
    have hzl : zs.length = m := by rw [← h2.len]; exact hyl
    refine ⟨h1, Full.mine ⟨h3, h4, ?_, hFu.cap, hle, ?_, hp⟩ hSb, h5.mono (fun k _ hk => by rw [show k = b from hk]; exact hSb), h6⟩
    · simp only [List.length_append, List.length_take, List.length_drop, hzl, hcl]; omega
    · have e1 : (ch.take p ++ zs ++ ch.drop (p + m)).take n = (ch.take n).take p ++ zs ++ (ch.take n).drop (p + m) := by
        rw [List.take_take, Nat.min_eq_left (show p ≤ n by omega), List.drop_take]
        have h7 : (ch.take p ++ zs).length = p + m := by rw [List.length_append, List.length_take, hzl]; omega
        rw [List.take_append, List.take_of_length_le (by omega), h7]
      rw [e1]
      exact (((hFu.rep.takeC p).app (h2.flat hF)).app (hFu.rep.dropC (p + m))).flat hF
/-- 's[p:p+m:p+m]'. -/
theorem cut3N {x l h mx : Operand} {sz : Nat} {A : Option Addr} {n c p m : Nat} {kl kh km : IntKind} (hT : P.underlying T = some (.slice e)) (hs : ∀ w, (sizeOf e).run P w = .ok sz w) (hx : ρ x = .slice A n c) (hl : ρ l = .int kl (p : Int)) (hh : ρ h = .int kh ((p + m : Nat) : Int)) (hm : ρ mx = .int km ((p + m : Nat) : Int)) (h0 : p + m ≤ c) :
    Does P ⟨dst, .slice T x (some l) (some h) (some mx), ty, pos, aft, g⟩ ρ w (.slice (if p + m = p then A else A.map (·.add (p * sz))) m m) w := by
  have := cut3E (P := P) (ρ := ρ) (w := w) (dst := dst) (ty := ty) (pos := pos) (aft := aft) (g := g) hT hs hx hl hh hm ⟨by omega, by omega, by omega, by omega⟩
  rw [Int.toNat_natCast, Int.toNat_natCast, show p + m - p = m by omega] at this
  exact this
end
end Go.Proofs.YtcdebnppbnmmgaaGreat.X

namespace Go.Proofs.YtcdebnppbnmmgaaGreat.X
open Go
set_option linter.unusedSimpArgs false
set_option linter.unusedVariables false
def Row {α : Type} (K : Kd α) (e : TypeId) (S : Nat → Prop) (lo hi : Nat) (w : World) (v : Value) (xs : List α) : Prop := ∃ A n c c0, v = .slice A n c ∧ n ≤ c ∧ c ≤ c0 ∧ Mine K e S lo hi w (.slice A n c0) xs
section
variable {α : Type} {K : Kd α} {e : TypeId} {S T : Nat → Prop} {lo hi : Nat} {w w' : World} {v : Value} {xs : List α}
theorem Row.of (h : Mine K e S lo hi w v xs) : Row K e S lo hi w v xs := by
  obtain ⟨A, c, rfl, hc, _⟩ := h.slice
  exact ⟨A, xs.length, c, c, rfl, hc, Nat.le_refl _, h⟩
theorem Row.ext (h : Row K e S lo hi w v xs) (x : Ext T w w') (hT : ∀ k, lo ≤ k → k < hi → ¬ T k) (hS : ∀ k, S k → ¬ T k) : Row K e S lo hi w' v xs := let ⟨A, n, c, c0, h1, h2, h3, h4⟩ := h; ⟨A, n, c, c0, h1, h2, h3, h4.ext x hT hS⟩
theorem Row.keep (h : Row K e S lo hi w v xs) (x : Keep w w') : Row K e S lo hi w' v xs := let ⟨A, n, c, c0, h1, h2, h3, h4⟩ := h; ⟨A, n, c, c0, h1, h2, h3, h4.keep x⟩
theorem Row.mono (h : Row K e S lo hi w v xs) (hS : ∀ k, k < w.heap.size → S k → T k) : Row K e T lo hi w v xs := let ⟨A, n, c, c0, h1, h2, h3, h4⟩ := h; ⟨A, n, c, c0, h1, h2, h3, h4.mono hS⟩
theorem Row.slice (h : Row K e S lo hi w v xs) : ∃ A c, v = .slice A xs.length c ∧ xs.length ≤ c ∧ xs.length ≤ 9223372036854775807 := by
  obtain ⟨A, n, c, c0, rfl, h2, h3, h4⟩ := h
  have := h4.len
  subst this
  obtain ⟨_, _, _, _, h5⟩ := h4.slice
  exact ⟨A, c, rfl, h2, h5⟩
theorem Row.len {A : Option Addr} {n c : Nat} (h : Row K e S lo hi w (.slice A n c) xs) : xs.length = n := by
  obtain ⟨A', n', c', c0, he, h2, h3, h4⟩ := h
  injection he with e1 e2 e3
  rw [e2]; exact h4.len
theorem Row.rd {A : Option Addr} {n c : Nat} (hF : Flat K) (h : Row K e S 0 0 w (.slice A n c) xs) : n ≤ c ∧ Sl K 0 w.heap.size w A n xs := by
  obtain ⟨A', n', c', c0, he, h2, h3, h4⟩ := h
  injection he with e1 e2 e3
  subst e1 e2 e3
  exact ⟨h2, (h4.rd hF).2⟩
theorem Row.slF (hF : Flat K) (h : Row K e S 0 0 w v xs) (lo' : Nat) (hS : ∀ k, S k → lo' ≤ k) : ∃ A c, v = .slice A xs.length c ∧ xs.length ≤ c ∧ Sl K lo' w.heap.size w A xs.length xs := by
  obtain ⟨A, n, c, c0, rfl, h2, h3, h4⟩ := h
  obtain ⟨A', c', e1, h5, h6⟩ := h4.slF hF lo' hS
  injection e1 with q1 q2 q3
  subst q1 q2 q3
  exact ⟨_, c, rfl, h2, h6⟩
/-- 's[:n:n]'. -/
theorem Row.cap {A : Option Addr} {n c : Nat} (h : Row K e S lo hi w (.slice A n c) xs) (m c' : Nat) (hm : m ≤ n) (hc : m ≤ c') (hc' : c' ≤ c) : Row K e S lo hi w (.slice A m c') (xs.take m) := by
  obtain ⟨A', n', c2, c0, he, h2, h3, h4⟩ := h
  injection he with e1 e2 e3
  subst e1 e2 e3
  exact ⟨A, m, c', c0, rfl, hc, by omega, h4.take m hm⟩
end
section
variable {P : Program} {ρ : Operand → Value} {w : World} {dst : Option Tmp} {ty : TypeId} {pos : String} {aft : Array Edge} {g : Option (Nat × Bool)}
theorem storeR {T e : TypeId} {S : Nat → Prop} {a x : Operand} {A : Option Addr} {n c j : Nat} {xs : List UInt8} {y : UInt8} (hs : ∀ w, (sizeOf T).run P w = .ok 1 w) (hM : Row KB e S 0 0 w (.slice A n c) xs) (hj : j < xs.length) (ha : ρ a = .pointer (some ((A.getD default).add (j * 1)))) (hx : ρ x = .int .u8 (y.toNat : Int)) :
    DoesE P ⟨none, .store T a x, ty, pos, aft, g⟩ ρ w fun _ w' => Row KB e S 0 0 w' (.slice A n c) (xs.set j y) ∧ Ext S w w' ∧ w'.heap.size = w.heap.size := by
  obtain ⟨A', n', c', c0, he, h2, h3, h4⟩ := hM
  injection he with e1 e2 e3
  subst e1 e2 e3
  exact (storeM hs h4 hj ha hx).mono fun _ w' ⟨q1, q2⟩ => ⟨⟨A, n, c, c0, rfl, h2, h3, q1⟩, q2⟩
theorem copyR {α : Type} {K : Kd α} {e T : TypeId} {S : Nat → Prop} {x y : Operand} {p n c m c2 : Nat} {A A2 : Option Addr} {xs ys : List α} {lo hi : Nat} {U : TypeId} (hF : Flat K) (hp : 0 < K.sz) (hT : P.underlying T = some (.slice e)) (hs : ∀ w, (sizeOf e).run P w = .ok K.sz w)
    (hx : ρ x = .slice (if p + m = p then A else A.map (·.add (p * K.sz))) m m) (hy : ρ y = .slice A2 m c2) (hM : Row K e S 0 0 w (.slice A n c) xs) (hpm : p + m ≤ n) (hS : Sl K lo hi w A2 m ys) :
    DoesE P ⟨dst, .call ⟨.builtin .copy, #[x, y], #[T, U]⟩, ty, pos, aft, g⟩ ρ w fun v w' => v = .int .i64 (m : Int) ∧ Row K e S 0 0 w' (.slice A n c) (xs.take p ++ ys ++ xs.drop (p + m)) ∧ Ext S w w' ∧ w'.heap.size = w.heap.size := by
  obtain ⟨A', n', c', c0, he, h2, h3, h4⟩ := hM
  injection he with e1 e2 e3
  subst e1 e2 e3
  exact (copyM hF hp hT hs hx hy h4 hpm hS).mono fun _ w' ⟨q0, q1, q2⟩ => ⟨q0, ⟨A, n, c, c0, rfl, h2, h3, q1⟩, q2⟩
/-- 'append(v, make([]byte, n)...)', v a row that may have less room than its block. -/
theorem appMkR {T U e : TypeId} {S : Nat → Prop} {s x : Operand} {v : Value} {xs : List UInt8} {n : Int} (hT : P.underlying T = some (.slice e)) (hU : P.underlying U = some (.int .i64)) (hI : ByteInfo P e) (hs : ρ s = v) (hx : ρ x = .int .i64 n) (h0 : 0 ≤ n) (hO : Row KB e S 0 0 w v xs) (hmax : xs.length + n.toNat ≤ 140737488355328) (hfr : ∀ k, w.heap.size ≤ k → S k) :
    DoesE P ⟨dst, .call ⟨.builtin .append, #[s, x], #[T, U]⟩, ty, pos, aft, g⟩ ρ w fun v' w' => Row KB e S 0 0 w' v' (xs ++ List.replicate n.toNat 0) ∧ Ext S w w' := by
  obtain ⟨i, h1, h2, h3, h4⟩ := hI
  obtain ⟨m, rfl⟩ := Int.eq_ofNat_of_zero_le h0
  rw [Int.toNat_natCast] at hmax ⊢
  obtain ⟨A0, n0, cap, c0, rfl, hn0c, hcc0, ⟨b, ⟨⟨cs, hr, hrow0⟩, hbb⟩, hb⟩⟩ := hO
  have hrow : w.ownsRow 0 e 1 (.slice A0 n0 c0) xs.length cs := hrow0
  have hw : IntKind.i64.wrap (m : Int) = (m : Int) := w_i64 (by omega)
  have hneg : ¬ ((m : Int) < 0) := by omega
  have h48 : ¬ ((281474976710656 : Int) < (m : Int)) := by omega
  have hzc := zeroCells_list
  have hw0 : IntKind.i64.wrap 0 = 0 := by decide
  have key : ∃ v1 w1 v2, (Builtin.append_ #[T, U] ty #[.slice A0 n0 cap, .int .i64 (m : Int)]).run P w = .ok v1 w1 ∧ w1.ownsRow 0 e 1 v2 (xs.length + m) (cs ++ List.replicate m (.int .u8 0)) ∧ w.grownBy w1 (Value.slice A0 n0 c0).ownBlock ∧ (v2.ownBlock = (Value.slice A0 n0 c0).ownBlock ∨ v2.ownBlock = some w.heap.size) ∧ ∃ A1 n1 c1 c2, v1 = .slice A1 n1 c1 ∧ v2 = .slice A1 n1 c2 ∧ n1 ≤ c1 ∧ c1 ≤ c2 := by
    have hcl : cs.length = xs.length := by have := hrow.1; omega
    rcases hrow.2 with ⟨h00, hn0⟩ | ⟨g', cap', cur, he, hbg, hg, hnc, hcm, hcs, htake⟩
    · injection h00 with e1 e2 e3
      subst e1 e2 e3
      have hcap0 : cap = 0 := by omega
      subst hcap0
      have hcs0 : cs = [] := List.eq_nil_of_length_eq_zero (by omega)
      subst hcs0
      by_cases hm : m = 0
      · subst hm
        refine ⟨.slice none 0 0, w, .slice none 0 0, ?_, by simpa using hrow, World.grownBy.refl w _, .inl rfl, none, 0, 0, 0, rfl, rfl, Nat.le_refl _, Nat.le_refl _⟩
        simp [Builtin.append_, run_underlying hT, run_underlying hU, sizeOf, typeInfo, h1, h4, asInt, asIntOf, hw0]
      · have h48' : ¬ (281474976710656 < Builtin.nextslicecap m 0 * i.bytes) := by rw [nextslicecap_zero (by omega), h4]; omega
        have h63' : ¬ (9223372036854775807 < (m : Int)) := by omega
        have hge := grownCap_ge w m 0 e
        refine ⟨.slice (some ⟨w.heap.size, 0, none⟩) m (grownCap w m 0 e), w.drew.alloc (.cells (Builtin.zeroCells #[.int .u8 0] m ++ Builtin.zeroCells #[.int .u8 0] (grownCap w m 0 e - m)) e), _, ?_, ⟨by simp [hn0], .inr ⟨w.heap.size, _, _, by rw [hn0, Nat.zero_add], Nat.zero_le _, heap_alloc_new w.drew _, by omega, grownCap_le_maxLen w m 0 e (by simp only [maxLen]; omega), ?_, ?_⟩⟩, ⟨rfl, rfl, rfl, by simp, fun k hk _ => heap_alloc_old w.drew _ (h := hk)⟩, .inr rfl, _, _, _, _, rfl, rfl, hge, Nat.le_refl _⟩
        · have hms : m * i.size ≠ 0 := by rw [h3]; omega
          simp [Builtin.append_, run_underlying hT, run_underlying hU, sizeOf, typeInfo, zeroValue, h1, h2, h4, hm, hms, h63', h48', h48, hneg, hw, asInt, asIntOf, Question.forced, run_firstCells_none, newRow, grownCap, Value.cells]
          simp [h4] at h48'
          omega
        · rw [Array.size_append, size_zeroCells, size_zeroCells]; simp; omega
        · rw [Array.toList_append, hzc, hn0]; simp
    · injection he with e1 e2 e3
      subst e1 e2 e3
      by_cases hroom : xs.length + m ≤ cap
      · have hfit : xs.length + m ≤ cur.size := by omega
        have hst := run_storeCells_at P g' xs.length e (List.replicate m (.int .u8 0)) 0 cur w hg (by simpa using hfit) (by intro u hu; rw [(List.mem_replicate.1 hu).2]; rfl)
        simp only [Nat.add_zero] at hst
        refine ⟨.slice (some ⟨g', 0, none⟩) (xs.length + m) cap, w.setRow g' (cur.toList.take xs.length ++ List.replicate m (Value.int .u8 0) ++ cur.toList.drop (xs.length + (List.replicate m (Value.int .u8 0)).length)).toArray, .slice (some ⟨g', 0, none⟩) (xs.length + m) c0, ?_, ⟨by simp [hcl], .inr ⟨g', c0, _, rfl, hbg, setRow_heap w g' cur _ e _ hg, by omega, hcm, ?_, ?_⟩⟩, ⟨rfl, rfl, rfl, by simp, fun k _ hk => setRow_other w g' k _ (fun e => hk (by simp [Value.ownBlock, e]))⟩, .inl rfl, _, _, _, _, rfl, rfl, hroom, hcc0⟩
        · by_cases hm : m = 0
          · subst hm
            have := setRow_self w g' cur e (0, 0) hg
            simp [Builtin.append_, run_underlying hT, run_underlying hU, sizeOf, typeInfo, h1, h4, asInt, asIntOf, hw0, hn0c, storeCells, this]
          · have hms : m * i.size ≠ 0 := by rw [h3]; omega
            have hst' := hst
            simp only [List.length_replicate] at hst' ⊢
            simp [Builtin.append_, run_underlying hT, run_underlying hU, sizeOf, typeInfo, zeroValue, h1, h2, h3, h4, hm, hms, hroom, h48, hneg, hw, asInt, asIntOf, Addr.add_lit, Value.cells, hzc, hst']
        · simp only [List.size_toArray, List.length_append, List.length_take, List.length_drop, Array.length_toList, List.length_replicate]
          omega
        · have ht2 : cur.toList.take xs.length = cs := by simpa using htake
          rw [ht2]
          have hl2 : (cs ++ List.replicate m (Value.int .u8 0)).length = (xs.length + m) * 1 := by simp [hcl]
          rw [← hl2]
          exact List.take_left
      · have hm : m ≠ 0 := by omega
        have hms : m * i.size ≠ 0 := by rw [h3]; omega
        have hf := run_firstCells_some (P := P) w.drew 1 xs.length ⟨g', 0, none⟩ xs.length cap cs (by omega) (by intro j u hu; have := hrow.cells (g := g') rfl j u hu; simpa using this)
        have h48' : ¬ (281474976710656 < Builtin.nextslicecap (xs.length + m) cap * i.bytes) := Nat.not_lt.2 (growslice_fits (by omega) (by rw [h4]; omega))
        have h63' : ¬ (9223372036854775807 < ((xs.length + m : Nat) : Int)) := by omega
        have hge := grownCap_ge w (xs.length + m) cap e
        refine ⟨.slice (some ⟨w.heap.size, 0, none⟩) (xs.length + m) (grownCap w (xs.length + m) cap e), w.drew.alloc (.cells (cs.toArray ++ Builtin.zeroCells #[.int .u8 0] m ++ Builtin.zeroCells #[.int .u8 0] (grownCap w (xs.length + m) cap e - (xs.length + m))) e), _, ?_, ⟨by simp [hcl], .inr ⟨w.heap.size, _, _, rfl, Nat.zero_le _, heap_alloc_new w.drew _, by omega, grownCap_le_maxLen w _ cap e (by simp only [maxLen]; omega), ?_, ?_⟩⟩, ⟨rfl, rfl, rfl, by simp, fun k hk _ => heap_alloc_old w.drew _ (h := hk)⟩, .inr rfl, _, _, _, _, rfl, rfl, hge, Nat.le_refl _⟩
        · have hms1 : ¬ (m * 1 = 0) := by omega
          have h63'' : ¬ ((9223372036854775807 : Int) < (xs.length : Int) + (m : Int)) := by omega
          have h48'' : ¬ (281474976710656 < Builtin.nextslicecap (xs.length + m) cap) := by rw [h4, Nat.mul_one] at h48'; exact h48'
          simp [Builtin.append_, run_underlying hT, run_underlying hU, sizeOf, typeInfo, zeroValue, h1, h2, h3, h4, hm, hms, hroom, h48, h63'', h48'', hneg, hw, asInt, asIntOf, Question.forced, hf, newRow, grownCap, Value.cells]
        · simp only [Array.size_append, size_zeroCells, List.size_toArray]; simp; omega
        · simp only [Array.toList_append, hzc]
          have hl2 : (cs ++ List.replicate m (Value.int .u8 0)).length = (xs.length + m) * 1 := by simp [hcl]
          rw [← hl2]
          exact List.take_left
  obtain ⟨v1, w1, v2, hrun, hown, hg, hat, A1, n1, c1, c2, rfl, rfl, hnc1, hcc1⟩ := key
  have hext : Ext S w w1 := (Ext.of_grown hg).mono fun k _ hk => hb k (by rw [← hbb]; exact hk)
  refine (does_run (w' := w1) rfl (by simp only [execOp, resolve, invoke, builtin, List.map_toArray, List.map_cons, List.map_nil, hs, hx]; simp [hrun])).e ⟨⟨A1, n1, c1, c2, rfl, hnc1, hcc1, (Value.slice A1 n1 c2).ownBlock, ⟨⟨_, Reps.app (hr.flat KB_flat) (reps_zero 0 0 w1 m), by rw [List.length_append, List.length_replicate]; exact hown⟩, rfl⟩, ?_⟩, hext⟩
  intro k hk
  rcases hat with hat | hat
  · exact hb k (by rw [← hbb, ← hat]; exact hk)
  · rw [hat] at hk
    cases hk
    exact hfr _ (Nat.le_refl _)
/-- 's[:m:m]'. -/
theorem cutHM {e T : TypeId} {x h mx : Operand} {sz : Nat} {A : Option Addr} {n c m : Nat} {kh km : IntKind} (hT : P.underlying T = some (.slice e)) (hs : ∀ w, (sizeOf e).run P w = .ok sz w) (hx : ρ x = .slice A n c) (hh : ρ h = .int kh (m : Int)) (hm : ρ mx = .int km (m : Int)) (h0 : m ≤ c) :
    Does P ⟨dst, .slice T x none (some h) (some mx), ty, pos, aft, g⟩ ρ w (.slice (if m = 0 then A else A.map (·.add (0 * sz))) m m) w :=
  does_run rfl (by
    have := run_slice_hm (P := P) w T A n c (elem_eq hT) kh km (m : Int) (m : Int) (by omega) (by omega) (by omega)
    simp [execOp, hx, hh, hm, run_sliceAt_slice _ _ _ _ _ _ (elem_eq hT), this, elem_is hT, hs, sliced, Result.andThen])
theorem cutHMr {e T : TypeId} {x h mx : Operand} {sz : Nat} {A : Option Addr} {n c m : Nat} {kh km : IntKind} (hT : P.underlying T = some (.slice e)) (hs : ∀ w, (sizeOf e).run P w = .ok sz w) (hx : ρ x = .slice A n c) (hh : ρ h = .int kh (m : Int)) (hm : ρ mx = .int km (m : Int)) (h0 : m ≤ c) :
    Does P ⟨dst, .slice T x none (some h) (some mx), ty, pos, aft, g⟩ ρ w (.slice A m m) w := by
  have := cutHM (P := P) (ρ := ρ) (w := w) (dst := dst) (ty := ty) (pos := pos) (aft := aft) (g := g) hT hs hx hh hm h0
  rwa [cutH_A] at this
end
end Go.Proofs.YtcdebnppbnmmgaaGreat.X

namespace Go.Proofs.YtcdebnppbnmmgaaGreat.X
open Go
set_option linter.unusedSimpArgs false
section
variable {P : Program} {f : FuncId} {N : Nat} {rd : Option Nat} {k : List Item} {E : Env} {D : List Deferred} {w : World} {R : Out → World → Prop}
/-- Behind both the slots are 'enc s', and 'I s' holds. -/
theorem joinL {c : Code} {σ : Type} (enc : σ → List (Nat × Value)) (I : σ → Prop) (h : (∀ s E', Holds E' (enc s) → I s → Run P f N rd k E' D w R) → Run P f N rd (.code c :: k) E D w R) (hJ : ∀ s b, I s → Run P f N rd k ⟨enc s, b⟩ D w R) : Run P f N rd (.code c :: k) E D w R :=
  h fun s _ hh hi => forget (enc s) hh fun b => hJ s b hi
/-- The same, in a world of its own. -/
theorem joinW {c : Code} {σ : Type} (enc : σ → List (Nat × Value)) (I : σ → World → Prop) (h : (∀ s E' w', Holds E' (enc s) → I s w' → Run P f N rd k E' D w' R) → Run P f N rd (.code c :: k) E D w R) (hJ : ∀ s b w', I s w' → Run P f N rd k ⟨enc s, b⟩ D w' R) : Run P f N rd (.code c :: k) E D w R :=
  h fun s _ w' hh hi => forget (enc s) hh fun b => hJ s b w' hi
end
end Go.Proofs.YtcdebnppbnmmgaaGreat.X
