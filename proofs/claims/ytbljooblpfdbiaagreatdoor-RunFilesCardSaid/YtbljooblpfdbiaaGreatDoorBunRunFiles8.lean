/- Texts that the proof of RunFiles stands on, part 8. -/
import Derived.Laws.OwnMore
import Derived.Test.YtbljooblpfdbiaaGreatDoorBunRunFiles7
set_option maxHeartbeats 4000000
set_option maxRecDepth 100000
set_option linter.unusedSimpArgs false
namespace Go.Proofs.YtbljooblpfdbiaaGreatDoor.X
open Go
theorem reps_zero (lo hi : Nat) (w : World) : ∀ n, Reps KB lo hi w (List.replicate n (0 : UInt8)) (List.replicate n (.int .u8 0))
  | 0 => rfl
  | n + 1 => ⟨[.int .u8 0], _, rfl, KB_R lo hi w 0, reps_zero lo hi w n⟩
theorem zeroCells_list (n : Nat) : (Builtin.zeroCells #[.int .u8 0] n).toList = List.replicate n (.int .u8 0) := by
  apply List.ext_getElem
  · simp [Builtin.zeroCells]
  · intro i h1 h2
    simp [Builtin.zeroCells]
    rw [show i % 1 = 0 by omega]; rfl
section
variable {P : Program} {ρ : Operand → Value} {w : World} {dst : Option Tmp} {ty : TypeId} {pos : String} {aft : Array Edge} {g : Option (Nat × Bool)}
structure ByteInfo (P : Program) (e : Nat) : Prop where
  ex : ∃ i, P.info? e = some i ∧ i.zero = some (.int .u8 0) ∧ i.size = 1 ∧ i.bytes = 1
theorem ByteInfo.of {P : Program} {e : Nat} (h : (P.info? e).map (fun i => (i.zero, i.size, i.bytes)) = some (some (.int .u8 0), 1, 1)) : ByteInfo P e := by
  obtain ⟨i, hi, hq⟩ := Option.map_eq_some_iff.1 h
  simp only [Prod.mk.injEq] at hq
  exact ⟨i, hi, hq.1, hq.2.1, hq.2.2⟩
theorem appMkB {T U e : TypeId} {S : Nat → Prop} {s x : Operand} {v : Value} {xs : List UInt8} {n : Int} (hT : P.underlying T = some (.slice e)) (hU : P.underlying U = some (.int .i64)) (hI : ByteInfo P e) (hs : ρ s = v) (hx : ρ x = .int .i64 n) (h0 : 0 ≤ n) (hO : Mine KB e S 0 0 w v xs) (hmax : xs.length + n.toNat ≤ 140737488355328) (hfr : ∀ k, w.heap.size ≤ k → S k) :
    DoesE P ⟨dst, .call ⟨.builtin .append, #[s, x], #[T, U]⟩, ty, pos, aft, g⟩ ρ w fun v' w' => Mine KB e S 0 0 w' v' (xs ++ List.replicate n.toNat 0) ∧ Ext S w w' := by
  obtain ⟨i, h1, h2, h3, h4⟩ := hI
  obtain ⟨m, rfl⟩ := Int.eq_ofNat_of_zero_le h0
  rw [Int.toNat_natCast] at hmax ⊢
  obtain ⟨b, ⟨⟨cs, hr, hrow0⟩, hbb⟩, hb⟩ := hO
  have hrow : w.ownsRow 0 e 1 v xs.length cs := hrow0
  have hw : IntKind.i64.wrap (m : Int) = (m : Int) := w_i64 Zz
  have hneg : ¬ ((m : Int) < 0) := by omega
  have h48 : ¬ ((281474976710656 : Int) < (m : Int)) := by omega
  have hzc := zeroCells_list
  have hw0 : IntKind.i64.wrap 0 = 0 := by decide
  have key : ∃ v1 w1, (Builtin.append_ #[T, U] ty #[v, .int .i64 (m : Int)]).run P w = .ok v1 w1 ∧ w1.ownsRow 0 e 1 v1 (xs.length + m) (cs ++ List.replicate m (.int .u8 0)) ∧ w.grownBy w1 v.ownBlock ∧ (v1.ownBlock = v.ownBlock ∨ v1.ownBlock = some w.heap.size) := by
    have hcl : cs.length = xs.length := by have := hrow.1; omega
    rcases hrow.2 with ⟨rfl, hn0⟩ | ⟨g', cap, cur, rfl, hbg, hg, hnc, hcm, hcs, htake⟩
    · have hcs0 : cs = [] := List.eq_nil_of_length_eq_zero Zz
      subst hcs0
      by_cases hm : m = 0
      · subst hm
        refine ⟨.slice none 0 0, w, ?_, by simpa using hrow, World.grownBy.refl w _, .inl rfl⟩
        simp [Builtin.append_, run_underlying hT, run_underlying hU, sizeOf, typeInfo, h1, h4, asInt, asIntOf, hw0]
      · have h48' : ¬ (281474976710656 < Builtin.nextslicecap m 0 * i.bytes) := by rw [nextslicecap_zero Zz, h4]; omega
        have h63' : ¬ (9223372036854775807 < (m : Int)) := by omega
        have hge := grownCap_ge w m 0 e
        refine ⟨.slice (some ⟨w.heap.size, 0, none⟩) m (grownCap w m 0 e), w.drew.alloc (.cells (Builtin.zeroCells #[.int .u8 0] m ++ Builtin.zeroCells #[.int .u8 0] (grownCap w m 0 e - m)) e), ?_, ⟨by simp [hn0], .inr ⟨w.heap.size, _, _, by rw [hn0, Nat.zero_add], Nat.zero_le _, heap_alloc_new w.drew _, by omega, grownCap_le_maxLen w m 0 e (by simp only [maxLen]; omega), ?_, ?_⟩⟩, ⟨rfl, rfl, rfl, by simp, fun k hk _ => heap_alloc_old w.drew _ (h := hk)⟩, .inr rfl⟩
        · have hms : m * i.size ≠ 0 := by rw [h3]; omega
          simp [Builtin.append_, run_underlying hT, run_underlying hU, sizeOf, typeInfo, zeroValue, h1, h2, h4, hm, hms, h63', h48', h48, hneg, hw, asInt, asIntOf, Question.forced, run_firstCells_none, newRow, grownCap, Value.cells]
          simp [h4] at h48'
          omega
        · rw [Array.size_append, size_zeroCells, size_zeroCells]; simp; omega
        · rw [Array.toList_append, hzc, hn0]; simp
    · by_cases hroom : xs.length + m ≤ cap
      · have hfit : xs.length + m ≤ cur.size := by omega
        have hst := run_storeCells_at P g' xs.length e (List.replicate m (.int .u8 0)) 0 cur w hg (by simpa using hfit) (by intro u hu; rw [(List.mem_replicate.1 hu).2]; rfl)
        simp only [Nat.add_zero] at hst
        refine ⟨.slice (some ⟨g', 0, none⟩) (xs.length + m) cap, w.setRow g' (cur.toList.take xs.length ++ List.replicate m (Value.int .u8 0) ++ cur.toList.drop (xs.length + (List.replicate m (Value.int .u8 0)).length)).toArray, ?_, ⟨by simp [hcl], .inr ⟨g', cap, _, rfl, hbg, setRow_heap w g' cur _ e _ hg, hroom, hcm, ?_, ?_⟩⟩, ⟨rfl, rfl, rfl, by simp, fun k _ hk => setRow_other w g' k _ (fun e => hk (by simp [Value.ownBlock, e]))⟩, .inl rfl⟩
        · by_cases hm : m = 0
          · subst hm
            have := setRow_self w g' cur e (0, 0) hg
            simp [Builtin.append_, run_underlying hT, run_underlying hU, sizeOf, typeInfo, h1, h4, asInt, asIntOf, hw0, hnc, storeCells, this]
          · have hms : m * i.size ≠ 0 := by rw [h3]; omega
            have hst' := hst
            simp only [List.length_replicate] at hst' ⊢
            simp [Builtin.append_, run_underlying hT, run_underlying hU, sizeOf, typeInfo, zeroValue, h1, h2, h3, h4, hm, hms, hroom, h48, hneg, hw, asInt, asIntOf, Addr.add_lit, Value.cells, hzc, hst']
        · simp only [List.size_toArray, List.length_append, List.length_take, List.length_drop, Array.length_toList, List.length_replicate]
          omega
        · have ht2 : cur.toList.take xs.length = cs := by simpa using htake
          rw [ht2]
          have hl2 : (cs ++ List.replicate m (Value.int .u8 0)).length = (xs.length + m) * 1 := by simp [hcl]
          rw [← hl2]
          exact List.take_left
      · have hm : m ≠ 0 := by omega
        have hms : m * i.size ≠ 0 := by rw [h3]; omega
        have hf := run_firstCells_some (P := P) w.drew 1 xs.length ⟨g', 0, none⟩ xs.length cap cs Zz (by intro j u hu; have := hrow.cells (g := g') rfl j u hu; simpa using this)
        have h48' : ¬ (281474976710656 < Builtin.nextslicecap (xs.length + m) cap * i.bytes) := Nat.not_lt.2 (growslice_fits Zz (by rw [h4]; omega))
        have h63' : ¬ (9223372036854775807 < ((xs.length + m : Nat) : Int)) := by omega
        have hge := grownCap_ge w (xs.length + m) cap e
        refine ⟨.slice (some ⟨w.heap.size, 0, none⟩) (xs.length + m) (grownCap w (xs.length + m) cap e), w.drew.alloc (.cells (cs.toArray ++ Builtin.zeroCells #[.int .u8 0] m ++ Builtin.zeroCells #[.int .u8 0] (grownCap w (xs.length + m) cap e - (xs.length + m))) e), ?_, ⟨by simp [hcl], .inr ⟨w.heap.size, _, _, rfl, Nat.zero_le _, heap_alloc_new w.drew _, by omega, grownCap_le_maxLen w _ cap e (by simp only [maxLen]; omega), ?_, ?_⟩⟩, ⟨rfl, rfl, rfl, by simp, fun k hk _ => heap_alloc_old w.drew _ (h := hk)⟩, .inr rfl⟩
        · have hms1 : ¬ (m * 1 = 0) := by omega
          have h63'' : ¬ ((9223372036854775807 : Int) < (xs.length : Int) + (m : Int)) := by omega
          have h48'' : ¬ (281474976710656 < Builtin.nextslicecap (xs.length + m) cap) := by rw [h4, Nat.mul_one] at h48'; exact h48'
          simp [Builtin.append_, run_underlying hT, run_underlying hU, sizeOf, typeInfo, zeroValue, h1, h2, h3, h4, hm, hms, hroom, h48, h63'', h48'', hneg, hw, asInt, asIntOf, Question.forced, hf, newRow, grownCap, Value.cells]
        · simp only [Array.size_append, size_zeroCells, List.size_toArray]; simp; omega
        · simp only [Array.toList_append, hzc]
          have hl2 : (cs ++ List.replicate m (Value.int .u8 0)).length = (xs.length + m) * 1 := by simp [hcl]
          rw [← hl2]
          exact List.take_left
  obtain ⟨v1, w1, hrun, hown, hg, hat⟩ := key
  have hext : Ext S w w1 := (Ext.of_grown hg).mono fun k _ hk => hb k (by rw [← hbb]; exact hk)
  refine (does_run (w' := w1) rfl (by simp only [execOp, resolve, invoke, builtin, List.map_toArray, List.map_cons, List.map_nil, hs, hx]; simp [hrun])).e ⟨⟨v1.ownBlock, ⟨⟨_, Reps.app (hr.flat KB_flat) (reps_zero 0 0 w1 m), by rw [List.length_append, List.length_replicate]; exact hown⟩, rfl⟩, ?_⟩, hext⟩
  intro k hk
  rcases hat with hat | hat
  · exact hb k (by rw [← hbb, ← hat]; exact hk)
  · rw [hat] at hk
    cases hk
    exact hfr _ (Nat.le_refl _)
end
theorem Sl.rows {α : Type} {K : Kd α} {lo hi : Nat} {w : World} {A : Option Addr} {n : Nat} {ls : List (List α)} (h : Sl (Kd.slice K) lo hi w A n ls) : ∃ vs, Sl KR1 lo hi w A n vs ∧ SlRows K lo hi w vs ls := by
  have key : ∀ (ls : List (List α)) (off : Nat), (∀ j x, ls[j]? = some x → ∃ B m c, m ≤ c ∧ Sl K lo hi w B m x ∧ ∀ ad, A = some ad → w.cell? (ad.add (off + j)) = some (.slice B m c)) →
      ∃ vs : List Value, SlRows K lo hi w vs ls ∧ (∀ j v, vs[j]? = some v → (∀ ad, A = some ad → w.cell? (ad.add (off + j)) = some v) ∧ v.oneCell' = true) := by
    intro ls
    induction ls with
    | nil => intro off _; exact ⟨[], trivial, fun j v hv => by simp at hv⟩
    | cons x ls ih =>
      intro off hq
      obtain ⟨B, m, c, h1, h2, h3⟩ := hq 0 x rfl
      obtain ⟨vs, hr, hv⟩ := ih (off + 1) fun j y hy => by
        obtain ⟨B, m, c, g1, g2, g3⟩ := hq (j + 1) y (by simpa using hy)
        exact ⟨B, m, c, g1, g2, fun ad e => by have := g3 ad e; rwa [show off + (j + 1) = off + 1 + j by omega] at this⟩
      refine ⟨.slice B m c :: vs, ⟨⟨B, m, c, rfl, h1, h2⟩, hr⟩, fun j v hj => ?_⟩
      cases j with
      | zero =>
        simp only [List.getElem?_cons_zero, Option.some.injEq] at hj
        subst hj
        exact ⟨h3, rfl⟩
      | succ j =>
        simp only [List.getElem?_cons_succ] at hj
        obtain ⟨g1, g2⟩ := hv j v hj
        exact ⟨fun ad e => by have := g1 ad e; rwa [show off + 1 + j = off + (j + 1) by omega] at this, g2⟩
  obtain ⟨vs, hr, hv⟩ := key ls 0 fun j x hx => by
    obtain ⟨ad, cs, e, ⟨B, m, c, hcs, h1, h2⟩, hq⟩ := h.get j x hx
    refine ⟨B, m, c, h1, h2, fun ad' e' => ?_⟩
    rw [e] at e'
    cases e'
    have := hq 0 (.slice B m c) (by rw [hcs]; rfl)
    simpa [Kd.slice] using this
  refine ⟨vs, ⟨hr.len.trans h.len, h.bound, fun hn => ?_⟩, hr⟩
  obtain ⟨ad, e, h1, h2, _⟩ := h.at_ hn
  refine ⟨ad, e, h1, h2, fun j v hj => ?_⟩
  obtain ⟨g1, g2⟩ := hv j v hj
  refine ⟨[v], ⟨rfl, g2⟩, fun i u hu => ?_⟩
  match i, hu with
  | 0, hu =>
    simp only [List.getElem?_cons_zero, Option.some.injEq] at hu
    subst hu
    have := g1 ad e
    simpa [KR1] using this
theorem reps_set {lo hi : Nat} {w : World} {y : UInt8} : ∀ {xs : List UInt8} {cs : List Value} (j : Nat), Reps KB lo hi w xs cs → Reps KB lo hi w (xs.set j y) (cs.set j (.int .u8 (y.toNat : Int)))
  | [], cs, j, h => by
    have : cs = [] := h
    subst this; exact rfl
  | x :: xs, cs, j, ⟨a, b, e, h1, h2⟩ => by
    have ha : a = [.int .u8 (x.toNat : Int)] := h1.1
    subst ha
    subst e
    cases j with
    | zero => exact ⟨[.int .u8 (y.toNat : Int)], b, rfl, KB_R lo hi w y, h2⟩
    | succ j => exact ⟨[.int .u8 (x.toNat : Int)], _, rfl, h1, reps_set j h2⟩
section
variable {P : Program} {ρ : Operand → Value} {w : World} {dst : Option Tmp} {ty : TypeId} {pos : String} {aft : Array Edge} {g : Option (Nat × Bool)}
theorem storeM {T e : TypeId} {S : Nat → Prop} {a x : Operand} {A : Option Addr} {n c j : Nat} {xs : List UInt8} {y : UInt8} (hs : ∀ w, (sizeOf T).run P w = .ok 1 w) (hM : Mine KB e S 0 0 w (.slice A n c) xs) (hj : j < xs.length) (ha : ρ a = .pointer (some ((A.getD default).add (j * 1)))) (hx : ρ x = .int .u8 (y.toNat : Int)) :
    DoesE P ⟨none, .store T a x, ty, pos, aft, g⟩ ρ w fun _ w' => Mine KB e S 0 0 w' (.slice A n c) (xs.set j y) ∧ Ext S w w' ∧ w'.heap.size = w.heap.size := by
  obtain ⟨b, ⟨⟨cs, hr, hrow⟩, hbb⟩, hb⟩ := hM
  have hl : cs.length = xs.length * 1 := hrow.1
  rcases hrow.2 with ⟨_, hn⟩ | ⟨g', cap, cur, he, hbg, hg, hnc, hcm, hcs, htake⟩
  · omega
  · injection he with e1 e2 e3
    subst e1
    have hcs : cur.size = cap * 1 := hcs
    have hi : j < cur.size := by omega
    rw [show (Option.getD (some (⟨g', 0, none⟩ : Addr)) default).add (j * 1) = ⟨g', j, none⟩ by rw [show j * 1 = j by omega]; show (⟨g', 0, none⟩ : Addr).add j = _; rw [add_mk, Nat.zero_add]] at ha
    have hc : w.cell? ⟨g', j, none⟩ = some (cur[j]'hi) := by rw [cell_of_row w g' j cur e (0, 0) hg]; exact Array.getElem?_eq_getElem hi
    have hf : w.frozen? ⟨g', j, none⟩ = false := frozen_of_row w g' j cur e hg
    have hst : (store ⟨g', j, none⟩ (.int .u8 (y.toNat : Int))).run P w = .ok () (w.setCell ⟨g', j, none⟩ (.int .u8 (y.toNat : Int))) := by simp [store, Sem.run, hc, hf]
    have hSg : S g' := hb g' (by rw [← hbb]; rfl)
    refine (does_skip (w' := w.setCell ⟨g', j, none⟩ (.int .u8 (y.toNat : Int))) rfl ?_).e ⟨⟨some g', ⟨⟨cs.set j (.int .u8 (y.toNat : Int)), reps_set j (hr.flat KB_flat), ?_⟩, rfl⟩, fun k hk => by cases hk; exact hSg⟩, (Ext.setCell w ⟨g', j, none⟩ _).mono (fun k _ hk => by rw [show k = g' from hk]; exact hSg), by simp⟩
    · simp only [execOp, ha, hx, Instr.storeAt, Instr.sureAddr, storeVar, Value.cells]
      simp [hs, storeCells, add_zero, hst]
    · refine ⟨by rw [List.length_set, List.length_set]; exact hl, .inr ⟨g', cap, cur.set! j (.int .u8 (y.toNat : Int)), ?_, hbg, ?_, by rw [List.length_set]; exact hnc, hcm, by rw [show KB.sz = 1 from rfl]; simp [hcs], ?_⟩⟩
      · rw [List.length_set, e2, e3]
      · have := heap_setCell_same w g' j cur e (.int .u8 (y.toNat : Int)) hg
        simpa using this
      · rw [List.length_set]
        have : (cur.set! j (Value.int .u8 (y.toNat : Int))).toList = cur.toList.set j (.int .u8 (y.toNat : Int)) := by simp
        rw [this, List.take_set, htake]
end
end Go.Proofs.YtbljooblpfdbiaaGreatDoor.X
