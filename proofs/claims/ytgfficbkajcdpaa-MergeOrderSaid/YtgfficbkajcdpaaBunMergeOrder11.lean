/- Texts that the proof of MergeOrder stands on, part 11. -/
import Derived.MapKept
import Derived.Laws.IdiomRangeMap
import Derived.Test.YtgfficbkajcdpaaProg
import Derived.Test.YtgfficbkajcdpaaBunMergeOrder10

namespace Go.Proofs.Ytgfficbkajcdpaa.X
open Go Go.MapKept
set_option linter.unusedVariables false
set_option linter.unusedSimpArgs false
set_option linter.unusedSectionVars false

section
variable {κ : Type} [DecidableEq κ] {ν : Type}
def asc (x : κ) : List (κ × ν) → Option ν
  | [] => none
  | (a, u) :: m => if x = a then some u else asc x m
def put (x : κ) (v : ν) : List (κ × ν) → List (κ × ν)
  | [] => [(x, v)]
  | (a, u) :: m => if x = a then (a, v) :: m else (a, u) :: put x v m
def del (x : κ) : List (κ × ν) → List (κ × ν)
  | [] => []
  | (a, u) :: m => if x = a then m else (a, u) :: del x m
def fndM (x : κ) : List (κ × ν) → Nat → Option (Nat × ν)
  | [], _ => none
  | (a, u) :: m, i => if x = a then some (i, u) else fndM x m (i + 1)
theorem fnd_spec (x : κ) : ∀ (m : List (κ × ν)) (i : Nat), (fndM x m i = none ∧ (∀ v, put x v m = m ++ [(x, v)]) ∧ del x m = m ∧ asc x m = none ∧ ∀ p, p ∈ m → p.1 ≠ x) ∨
    ∃ j u, fndM x m i = some (i + j, u) ∧ m[j]? = some (x, u) ∧ (∀ v, put x v m = m.set j (x, v)) ∧ del x m = m.eraseIdx j ∧ asc x m = some u
  | [], i => .inl ⟨rfl, fun _ => rfl, rfl, rfl, fun p h => by simp at h⟩
  | (a, u) :: m, i => by
    by_cases h : x = a
    · subst h
      exact .inr ⟨0, u, by simp [fndM], rfl, fun v => by simp [put], by simp [del], by simp [asc]⟩
    · rcases fnd_spec x m (i + 1) with ⟨h1, h2, h3, h4, h5⟩ | ⟨j, u', h1, h2, h3, h4, h5⟩
      · exact .inl ⟨by simp [fndM, h, h1], fun v => by simp [put, h, h2], by simp [del, h, h3], by simp [asc, h, h4], fun p hp => by
          rcases List.mem_cons.1 hp with rfl | hp
          · exact fun e => h e.symm
          · exact h5 p hp⟩
      · exact .inr ⟨j + 1, u', by simp [fndM, h, h1]; omega, by simpa using h2, fun v => by simp [put, h, h3], by simp [del, h, h4], by simp [asc, h, h5]⟩
theorem asc_none {x : κ} {m : List (κ × ν)} : asc x m = none ↔ ∀ p, p ∈ m → p.1 ≠ x := by
  induction m with
  | nil => simp [asc]
  | cons q m ih =>
    obtain ⟨a, u⟩ := q
    rw [asc]
    by_cases h : x = a
    · subst h; simp
    · rw [if_neg h, ih]
      constructor
      · intro g p hp
        rcases List.mem_cons.1 hp with rfl | hp
        · exact fun e => h e.symm
        · exact g p hp
      · exact fun g p hp => g p (List.mem_cons_of_mem _ hp)
theorem asc_some {x : κ} {u : ν} {m : List (κ × ν)} (h : asc x m = some u) : (x, u) ∈ m := by
  induction m with
  | nil => simp [asc] at h
  | cons q m ih =>
    obtain ⟨a, w⟩ := q
    rw [asc] at h
    by_cases e : x = a
    · subst e; simp at h; subst h; exact List.mem_cons_self
    · rw [if_neg e] at h; exact List.mem_cons_of_mem _ (ih h)
theorem asc_mem {x : κ} {u : ν} {m : List (κ × ν)} (hn : (m.map (·.1)).Nodup) (h : (x, u) ∈ m) : asc x m = some u := by
  induction m with
  | nil => simp at h
  | cons q m ih =>
    obtain ⟨a, w⟩ := q
    obtain ⟨h1, h2⟩ := List.nodup_cons.1 (by simpa using hn : (a :: m.map (·.1)).Nodup)
    rw [asc]
    rcases List.mem_cons.1 h with e | h
    · cases e; simp
    · rw [if_neg (fun e => h1 (by rw [← e]; exact List.mem_map.2 ⟨_, h, rfl⟩)), ih h2 h]
theorem asc_put (x y : κ) (v : ν) : ∀ m : List (κ × ν), asc y (put x v m) = if y = x then some v else asc y m
  | [] => by simp [put, asc]
  | (a, u) :: m => by
    by_cases h : x = a
    · subst h
      rw [put, if_pos rfl, asc, asc]
      by_cases e : y = x <;> simp [e]
    · rw [put, if_neg h, asc, asc, asc_put x y v m]
      by_cases e : y = a
      · subst e; rw [if_pos rfl, if_pos rfl, if_neg (fun e => h e.symm)]
      · simp [e]
theorem asc_del {x y : κ} : ∀ {m : List (κ × ν)}, (m.map (·.1)).Nodup → asc y (del x m) = if y = x then none else asc y m
  | [], _ => by simp [del, asc]
  | (a, u) :: m, hn => by
    obtain ⟨h1, h2⟩ := List.nodup_cons.1 (by simpa using hn : (a :: m.map (·.1)).Nodup)
    by_cases h : x = a
    · subst h
      rw [del, if_pos rfl, asc]
      by_cases e : y = x
      · subst e; rw [if_pos rfl]; exact asc_none.2 fun p hp e => h1 (by rw [← e]; exact List.mem_map.2 ⟨p, hp, rfl⟩)
      · simp [e]
    · rw [del, if_neg h, asc, asc, asc_del h2]
      by_cases e : y = a
      · subst e; rw [if_pos rfl, if_pos rfl, if_neg (fun e => h e.symm)]
      · simp [e]
theorem put_keys (x : κ) (v : ν) (m : List (κ × ν)) : (put x v m).map (·.1) = if (m.map (·.1)).contains x then m.map (·.1) else m.map (·.1) ++ [x] := by
  induction m with
  | nil => simp [put]
  | cons q m ih =>
    obtain ⟨a, u⟩ := q
    by_cases h : x = a
    · subst h; simp [put]
    · rw [put, if_neg h, List.map_cons, ih, List.map_cons]
      by_cases hc : (m.map (·.1)).contains x = true
      · rw [if_pos hc, if_pos (by simp at hc ⊢; exact .inr hc)]
      · rw [if_neg hc, if_neg (by simp at hc ⊢; exact ⟨h, hc⟩)]; rfl
theorem put_nodup {x : κ} {v : ν} {m : List (κ × ν)} (hn : (m.map (·.1)).Nodup) : ((put x v m).map (·.1)).Nodup := by
  rw [put_keys]; split
  · exact hn
  · rename_i h
    rw [List.nodup_append]
    refine ⟨hn, by simp, fun a ha b hb => ?_⟩
    simp only [List.mem_singleton] at hb
    subst hb
    exact fun e => h (by rw [← e]; simpa using ha)
theorem del_sub {x : κ} : ∀ (m : List (κ × ν)), (del x m).Sublist m
  | [] => List.Sublist.refl _
  | (a, u) :: m => by
    rw [del]; split
    · exact List.sublist_cons_self _ _
    · exact (del_sub m).cons_cons _
theorem del_nodup {x : κ} {m : List (κ × ν)} (hn : (m.map (·.1)).Nodup) : ((del x m).map (·.1)).Nodup := hn.sublist ((del_sub m).map _)
theorem del_eq {x : κ} : ∀ {m : List (κ × ν)}, (m.map (·.1)).Nodup → del x m = m.filter fun p => decide (p.1 ≠ x)
  | [], _ => rfl
  | (a, u) :: m, hn => by
    obtain ⟨h1, h2⟩ := List.nodup_cons.1 (by simpa using hn : (a :: m.map (·.1)).Nodup)
    rw [del, List.filter_cons]
    by_cases h : x = a
    · subst h
      rw [if_pos rfl, if_neg (by simp)]
      symm
      rw [List.filter_eq_self]
      intro p hp
      simp
      exact fun e => h1 (by rw [← e]; exact List.mem_map.2 ⟨p, hp, rfl⟩)
    · rw [if_neg h, if_pos (by simp; exact fun e => h e.symm), del_eq h2]
end

theorem map_erase {α β : Type} (f : α → β) : ∀ (l : List α) (j : Nat), (l.eraseIdx j).map f = (l.map f).eraseIdx j
  | [], _ => rfl
  | _ :: _, 0 => rfl
  | x :: l, j + 1 => by simp [map_erase f l j]

section
variable {P : Program} {k : TypeId} {κ : Type} [DecidableEq κ] {enc : κ → Value}
/-- What the machine does with keys of a type. -/
structure KeyT (P : Program) (k : TypeId) (enc : κ → Value) : Prop where
  check : ∀ (em : Bool) (x : κ) (w : World), (Instr.checkKey em 10000 k (enc x)).run P w = .ok () w
  find : ∀ (x : κ) (m : List (κ × Value)) (es : List MapEntry) (w : World), es.map (fun e => (e.key, e.val)) = m.map (fun p => (enc p.1, p.2)) → (Instr.findKey k (enc x) es).run P w = .ok (fndM x m 0) w
  stays : ∀ (x : κ) (w : World), (Instr.keyThatStays (enc x) (enc x)).run P w = .ok (enc x) w
theorem stays_of {v : Value} (h : Instr.sameBits 10000 v v = true) (w : World) : (Instr.keyThatStays v v).run P w = .ok v w := by
  simp [Instr.keyThatStays, h]
theorem find_now {d : TypeDesc} (hd : P.underlying k = some d) (hs : ∀ x y : κ, Instr.sameNow d (enc x) (enc y) = some (decide (x = y))) (x : κ) (w : World) : ∀ (m : List (κ × Value)) (es : List MapEntry), es.map (fun e => (e.key, e.val)) = m.map (fun p => (enc p.1, p.2)) → (Instr.findKey k (enc x) es).run P w = .ok (fndM x m 0) w := by
  have key : ∀ (m : List (κ × Value)) (es : List MapEntry) (i : Nat), es.map (fun e => (e.key, e.val)) = m.map (fun p => (enc p.1, p.2)) → Instr.findNow d (enc x) es i = some (fndM x m i) := by
    intro m
    induction m with
    | nil => intro es i h; have : es = [] := by simpa using h
             subst this; rfl
    | cons q m ih =>
      intro es i h
      obtain ⟨a, u⟩ := q
      cases es with
      | nil => simp at h
      | cons e es =>
        simp only [List.map_cons, List.cons.injEq, Prod.mk.injEq] at h
        obtain ⟨⟨h1, h2⟩, h3⟩ := h
        rw [Instr.findNow, h1, hs, fndM]
        by_cases hx : x = a
        · simp [hx, h2]
        · simp [hx, ih es (i + 1) h3]
  intro m es h
  exact run_findKey hd (key m es 0 h)
theorem keyPlain {d : TypeDesc} (hd : P.underlying k = some d) (hk : ∀ x, IsKey d (enc x)) (hi : ∀ x y, enc x = enc y → x = y) : KeyT P k enc where
  check em x w := run_checkKey hd (hk x) em 9999
  find x m es w h := find_now hd (fun a b => by
    obtain ⟨r, h1, h2⟩ := sameNow_of_keys (hk a) (hk b)
    rw [h1]
    congr 1
    by_cases e : a = b
    · subst e; rw [h2.2 rfl]; simp
    · have : r = false := by
        cases r with
        | false => rfl
        | true => exact absurd (hi _ _ (h2.1 rfl)) e
      rw [this]; simp [e]) x w m es h
  stays x w := run_keyThatStays (hk x)
theorem keyInt {ik : IntKind} (hd : P.underlying k = some (.int ik)) : KeyT P k (fun n : Int => Value.int ik n) := keyPlain hd (fun x => by simp [IsKey]) (fun x y h => by simpa using h)
theorem keyStr (hd : P.underlying k = some .string) : KeyT P k (fun s : ByteArray => Value.string s) := keyPlain hd (fun x => by simp [IsKey]) (fun x y h => by simpa using h)
/-- Keys that are structs: their equality is known. -/
theorem keyStruct {fs : Array Field} (hd : P.underlying k = some (.struct fs)) (hc : ∀ (em : Bool) (x : κ) (w : World), (Instr.checkKey em 10000 k (enc x)).run P w = .ok () w) (he : ∀ (x y : κ) (w : World), (Op.equal k (enc x) (enc y)).run P w = .ok (decide (x = y)) w) (hb : ∀ x : κ, Instr.sameBits 10000 (enc x) (enc x) = true) : KeyT P k enc where
  check := hc
  stays x w := stays_of (hb x) w
  find x m es w h := by
    have key : ∀ (m : List (κ × Value)) (es : List MapEntry) (i : Nat), es.map (fun e => (e.key, e.val)) = m.map (fun p => (enc p.1, p.2)) → (Instr.findAsking k (enc x) es i).run P w = .ok (fndM x m i) w := by
      intro m
      induction m with
      | nil => intro es i h; have : es = [] := by simpa using h
               subst this; rfl
      | cons q m ih =>
        intro es i h
        obtain ⟨a, u⟩ := q
        cases es with
        | nil => simp at h
        | cons e es =>
          simp only [List.map_cons, List.cons.injEq, Prod.mk.injEq] at h
          obtain ⟨⟨h1, h2⟩, h3⟩ := h
          rw [Instr.findAsking, h1, fndM]
          by_cases hx : x = a
          · simp [he, hx, h2]
          · simp [he, hx, ih es (i + 1) h3]
    cases es with
    | nil =>
      have : m = [] := by simpa using h.symm
      subst this
      simp [Instr.findKey, run_underlying hd, Instr.findNow]; rfl
    | cons e es =>
      have := key m (e :: es) 0 h
      simp [Instr.findKey, run_underlying hd, Instr.findNow, Instr.sameNow, this]
end

/-- The map in block b. -/
structure Mp {κ : Type} (enc : κ → Value) (w : World) (b : Nat) (m : List (κ × Value)) : Prop where
  ex : ∃ (es : Array MapEntry) (ck : Nat), w.heap[b]? = some (.map es ck) ∧ es.toList.map (fun e => (e.key, e.val)) = m.map (fun p => (enc p.1, p.2)) ∧ (∀ e ∈ es.toList, e.born < ck) ∧ (es.toList.map (·.born)).Nodup
  nodup : (m.map (·.1)).Nodup
section
variable {κ : Type} {enc : κ → Value} {w w' : World} {b : Nat} {m : List (κ × Value)}
theorem Mp.lt (h : Mp enc w b m) : b < w.heap.size := let ⟨_, _, h, _⟩ := h.ex; lt_of_block h
theorem Mp.ext (h : Mp enc w b m) {T : Nat → Prop} (x : Ext T w w') (hT : ¬ T b) : Mp enc w' b m :=
  ⟨let ⟨es, ck, h1, h2⟩ := h.ex; ⟨es, ck, (x.keep b h.lt hT).trans h1, h2⟩, h.nodup⟩
theorem Mp.keep (h : Mp enc w b m) (x : Keep w w') : Mp enc w' b m := h.ext x id
end
section
variable {P : Program} {ρ : Operand → Value} {w : World} {dst : Option Tmp} {ty : TypeId} {pos : String} {aft : Array Edge} {g : Option (Nat × Bool)}
variable {κ : Type} [DecidableEq κ] {enc : κ → Value} {b : Nat} {m : List (κ × Value)} {T K E : TypeId}
theorem makeMapE {T : TypeId} {κ : Type} (enc : κ → Value) : DoesE P ⟨dst, .makeMap T none, ty, pos, aft, g⟩ ρ w fun v w' => v = .map (some w.heap.size) ∧ Mp enc w' w.heap.size [] ∧ Keep w w' ∧ w'.heap.size = w.heap.size + 1 :=
  (does_run (w' := w.alloc (.map #[] 0)) (v := .map (some w.heap.size)) rfl (by simp only [execOp, Option.map_none]; rfl)).e ⟨rfl, ⟨⟨#[], 0, heap_alloc_new w _, rfl, fun e h => by simp at h, by simp⟩, by simp⟩, Keep.alloc w _, by simp⟩
theorem run_lookup {P : Program} {w : World} {z : Value} (hT : P.underlying T = some (.map K E)) (hK : KeyT P K enc) (hz : ∀ w, (zeroValue E).run P w = .ok z w) (hM : Mp enc w b m) (x : κ) (ok : Bool) :
    (Instr.lookup T (.map (some b)) (enc x) ok).run P w = .ok (if ok then .tuple #[(asc x m).getD z, .bool (asc x m).isSome] else (asc x m).getD z) w := by
  obtain ⟨es, ck, h1, h2, _, _⟩ := hM.ex
  have hf := hK.find x m es.toList w h2
  have hc := hK.check es.isEmpty x w
  rcases fnd_spec x m 0 with ⟨q1, _, _, q4, _⟩ | ⟨j, u, q1, _, _, _, q5⟩
  · rw [q1] at hf
    cases ok <;> simp [Instr.lookup, run_underlying hT, MapKept.run_getObj_map h1, hc, hf, hz, q4]
  · rw [q1] at hf
    cases ok <;> simp [Instr.lookup, run_underlying hT, MapKept.run_getObj_map h1, hc, hf, q5]
/-- 'm[k]'. -/
theorem lookupD {x y : Operand} {z : Value} {a : κ} (hT : P.underlying T = some (.map K E)) (hK : KeyT P K enc) (hz : ∀ w, (zeroValue E).run P w = .ok z w) (hM : Mp enc w b m) (hx : ρ x = .map (some b)) (hy : ρ y = enc a) : Does P ⟨dst, .lookup T x y false, ty, pos, aft, g⟩ ρ w ((asc a m).getD z) w :=
  does_run rfl (by simp only [execOp, hx, hy]; simp [run_lookup hT hK hz hM a false])
/-- 'v, ok := m[k]'. -/
theorem lookupOk {x y : Operand} {z : Value} {a : κ} (hT : P.underlying T = some (.map K E)) (hK : KeyT P K enc) (hz : ∀ w, (zeroValue E).run P w = .ok z w) (hM : Mp enc w b m) (hx : ρ x = .map (some b)) (hy : ρ y = enc a) : Does P ⟨dst, .lookup T x y true, ty, pos, aft, g⟩ ρ w (.tuple #[(asc a m).getD z, .bool (asc a m).isSome]) w :=
  does_run rfl (by simp only [execOp, hx, hy]; simp [run_lookup hT hK hz hM a true])
theorem Ext.setMap (w : World) (b : Nat) (o : Obj) : Ext (fun k => k = b) w { w with heap := w.heap.setIfInBounds b o } := ⟨rfl, rfl, rfl, by simp, fun k _ hk => by simp only [Array.getElem?_setIfInBounds]; rw [if_neg (fun h => hk h.symm)]⟩
theorem setMap_at {w : World} {b : Nat} (h : b < w.heap.size) (o : Obj) : (w.heap.setIfInBounds b o)[b]? = some o := by simp [h]
theorem run_update {P : Program} {w : World} (hT : P.underlying T = some (.map K E)) (hK : KeyT P K enc) (hM : Mp enc w b m) (x : κ) (v : Value) : ∃ w', (Instr.mapUpdate T (.map (some b)) (enc x) v).run P w = .ok () w' ∧ Mp enc w' b (put x v m) ∧ Ext (fun k => k = b) w w' ∧ w'.heap.size = w.heap.size := by
  obtain ⟨es, ck, h1, h2, h3, h4⟩ := hM.ex
  have hf := hK.find x m es.toList w h2
  have hc := hK.check false x w
  have hlt := hM.lt
  rcases fnd_spec x m 0 with ⟨q1, q2, _, _, q5⟩ | ⟨j, u, q1, q2, q3, _, _⟩
  · rw [q1] at hf
    refine ⟨{ w with heap := w.heap.setIfInBounds b (.map (es.push { key := enc x, val := v, born := ck }) (ck + 1)) }, ?_, ⟨⟨_, _, setMap_at hlt _, ?_, ?_, ?_⟩, put_nodup hM.nodup⟩, Ext.setMap w b _, by simp⟩
    · simp [Instr.mapUpdate, run_underlying hT, MapKept.run_getObj_map h1, hc, hf, MapKept.run_setObj_map _ h1]
    · rw [q2]; simp [h2]
    · intro e he
      simp only [Array.toList_push, List.mem_append, List.mem_singleton] at he
      rcases he with he | rfl
      · have := h3 e he; omega
      · exact Nat.lt_succ_self _
    · simp only [Array.toList_push, List.map_append, List.map_cons, List.map_nil]
      rw [List.nodup_append]
      refine ⟨h4, by simp, fun a ha c hc' => ?_⟩
      simp only [List.mem_singleton] at hc'
      obtain ⟨e, he, rfl⟩ := List.mem_map.1 ha
      have := h3 e he
      omega
  · rw [q1] at hf
    simp only [Nat.zero_add] at hf
    have hj : ∃ e, es[j]? = some e ∧ e.key = enc x := by
      have h5 := congrArg (fun l => l[j]?) h2
      simp only [List.getElem?_map, q2, Option.map_some] at h5
      obtain ⟨e, he, h6⟩ := Option.map_eq_some_iff.1 h5
      simp only [Prod.mk.injEq] at h6
      exact ⟨e, by simpa using he, h6.1⟩
    obtain ⟨e0, he0, hk0⟩ := hj
    have hst := hK.stays x w
    have hmod : (es.modify j fun e => { e with key := enc x, val := v }).toList = es.toList.set j { e0 with key := enc x, val := v } := by
      apply List.ext_getElem?
      intro i
      simp only [Array.toList_modify, List.getElem?_modify, List.getElem?_set]
      by_cases e : j = i
      · subst e
        have hjl : j < es.toList.length := by have := (Array.getElem?_eq_some_iff.1 he0).1; simpa using this
        simp [he0, hjl]
        have := (Array.getElem?_eq_some_iff.1 he0).1
        omega
      · simp [e]
    refine ⟨{ w with heap := w.heap.setIfInBounds b (.map (es.modify j fun e => { e with key := enc x, val := v }) ck) }, ?_, ⟨⟨_, _, setMap_at hlt _, ?_, ?_, ?_⟩, put_nodup hM.nodup⟩, Ext.setMap w b _, by simp⟩
    · simp [Instr.mapUpdate, run_underlying hT, MapKept.run_getObj_map h1, hc, hf, he0, hk0, hst, MapKept.run_setObj_map _ h1]
    · rw [hmod, q3, List.map_set, List.map_set, h2]
    · intro e he
      rw [hmod] at he
      rcases List.mem_or_eq_of_mem_set he with he | rfl
      · exact h3 e he
      · exact h3 e0 (by have := Array.mem_of_getElem? he0; simpa using this)
    · rw [hmod, List.map_set]
      have : (es.toList.map (·.born))[j]? = some e0.born := by simp [he0]
      rw [show ({ e0 with key := enc x, val := v } : MapEntry).born = e0.born from rfl]
      have e2 : (es.toList.map (·.born)).set j e0.born = es.toList.map (·.born) := by
        apply List.ext_getElem?
        intro i
        rw [List.getElem?_set]
        split
        · rename_i e; subst e
          split
          · exact this.symm
          · rename_i hl; rw [List.getElem?_eq_none (by omega)]
        · rfl
      rw [e2]; exact h4
/-- 'm[k] = v'. -/
theorem updateE {M x y : Operand} {a : κ} {v : Value} (hT : P.underlying T = some (.map K E)) (hK : KeyT P K enc) (hM : Mp enc w b m) (hm : ρ M = .map (some b)) (hx : ρ x = enc a) (hy : ρ y = v) : DoesE P ⟨none, .mapUpdate T M x y, ty, pos, aft, g⟩ ρ w fun _ w' => Mp enc w' b (put a v m) ∧ Ext (fun k => k = b) w w' ∧ w'.heap.size = w.heap.size := by
  obtain ⟨w', h1, h2⟩ := run_update hT hK hM a v
  exact (does_skip (w' := w') rfl (by simp only [execOp, hm, hx, hy]; simp [h1])).e h2
/-- 'len(m)'. -/
theorem lenM {x : Operand} (hT : P.underlying T = some (.map K E)) (hM : Mp enc w b m) (hx : ρ x = .map (some b)) : Does P ⟨dst, .call ⟨.builtin .len, #[x], #[T]⟩, ty, pos, aft, g⟩ ρ w (.int .i64 (m.length : Int)) w := by
  obtain ⟨es, ck, h1, h2, _, _⟩ := hM.ex
  have hl : es.size = m.length := by
    have := congrArg List.length h2
    simpa using this
  exact does_run rfl (by simp [execOp, resolve, invoke, builtin, Builtin.len_, run_underlying hT, hx, MapKept.run_getObj_map h1, hl, goInt])
/-- 'delete(m, k)'. -/
theorem deleteE {M x : Operand} {a : κ} {tx : TypeId} (hT : P.underlying T = some (.map K E)) (hK : KeyT P K enc) (hM : Mp enc w b m) (hm : ρ M = .map (some b)) (hx : ρ x = enc a) : DoesE P ⟨dst, .call ⟨.builtin .delete, #[M, x], #[T, tx]⟩, ty, pos, aft, g⟩ ρ w fun v w' => v = .tuple #[] ∧ Mp enc w' b (del a m) ∧ Ext (fun k => k = b) w w' ∧ w'.heap.size = w.heap.size := by
  obtain ⟨es, ck, h1, h2, h3, h4⟩ := hM.ex
  have hf := hK.find a m es.toList w h2
  have hc := hK.check es.isEmpty a w
  have hlt := hM.lt
  rcases fnd_spec a m 0 with ⟨q1, _, q3, _, _⟩ | ⟨j, u, q1, q2, _, q4, _⟩
  · rw [q1] at hf
    refine (does_run (w' := { w with heap := w.heap.setIfInBounds b (.map es ck) }) (v := .tuple #[]) rfl ?_).e ⟨rfl, ⟨⟨es, ck, setMap_at hlt _, by rw [q3]; exact h2, h3, h4⟩, by rw [q3]; exact hM.nodup⟩, Ext.setMap w b _, by simp⟩
    simp [execOp, resolve, invoke, builtin, Builtin.delete_, run_underlying hT, hm, hx, MapKept.run_getObj_map h1, hc, hf, MapKept.run_setObj_map _ h1]
  · rw [q1] at hf
    simp only [Nat.zero_add] at hf
    have he : (es.eraseIdxIfInBounds j).toList = es.toList.eraseIdx j := by simp
    refine (does_run (w' := { w with heap := w.heap.setIfInBounds b (.map (es.eraseIdxIfInBounds j) ck) }) (v := .tuple #[]) rfl ?_).e ⟨rfl, ⟨⟨_, ck, setMap_at hlt _, ?_, ?_, ?_⟩, del_nodup hM.nodup⟩, Ext.setMap w b _, by simp⟩
    · simp [execOp, resolve, invoke, builtin, Builtin.delete_, run_underlying hT, hm, hx, MapKept.run_getObj_map h1, hc, hf, MapKept.run_setObj_map _ h1]
    · rw [he, q4, map_erase, map_erase, h2]
    · intro e h5
      rw [he] at h5
      exact h3 e (List.mem_of_mem_eraseIdx h5)
    · rw [he, map_erase]
      exact h4.sublist (List.eraseIdx_sublist _ _)
theorem run_equalIn_map1 {P : Program} (w : World) (d : Nat) (hT : P.underlying T = some (.map K E)) : (Op.equalIn (d + 1) T (.map (some b)) (.map none)).run P w = .ok false w := by
  simp [Op.equalIn, run_underlying hT]
theorem run_equalIn_map0 {P : Program} (w : World) (d : Nat) (hT : P.underlying T = some (.map K E)) : (Op.equalIn (d + 1) T (.map none) (.map none)).run P w = .ok true w := by
  simp [Op.equalIn, run_underlying hT]
/-- Against nil. -/
theorem neMap1 {T' : TypeId} {x : Operand} (hT : P.underlying T = some (.map K E)) (hx : ρ x = .map (some b)) (hy : ρ (.const (.map none)) = .map none) : Does P ⟨dst, .binOp .neq T x (.const (.map none)) T', ty, pos, aft, g⟩ ρ w (.bool true) w :=
  does_run rfl (by
    have h1 : (Op.equal T (.map (some b)) (.map none)).run P w = .ok false w := run_equalIn_map1 w 9999 hT
    simp only [execOp, hx, hy, binOp, eqGuard]
    simp [h1])
theorem neMap0 {T' : TypeId} {x : Operand} (hT : P.underlying T = some (.map K E)) (hx : ρ x = .map none) (hy : ρ (.const (.map none)) = .map none) : Does P ⟨dst, .binOp .neq T x (.const (.map none)) T', ty, pos, aft, g⟩ ρ w (.bool false) w :=
  does_run rfl (by
    have h1 : (Op.equal T (.map none) (.map none)).run P w = .ok true w := run_equalIn_map0 w 9999 hT
    simp only [execOp, hx, hy, binOp, eqGuard]
    simp [h1])
end
/-! ### elements as data -/
section
variable {κ ν μ : Type}
def mv (f : ν → μ) (m : List (κ × ν)) : List (κ × μ) := m.map fun p => (p.1, f p.2)
theorem mv_len (f : ν → μ) (m : List (κ × ν)) : (mv f m).length = m.length := by simp [mv]
variable [DecidableEq κ]
theorem asc_mv (f : ν → μ) (x : κ) : ∀ m : List (κ × ν), asc x (mv f m) = (asc x m).map f
  | [] => rfl
  | (a, u) :: m => by
    have ih := asc_mv f x m
    simp only [mv, List.map_cons, asc] at ih ⊢
    split
    · rfl
    · exact ih
theorem put_mv (f : ν → μ) (x : κ) (v : ν) : ∀ m : List (κ × ν), put x (f v) (mv f m) = mv f (put x v m)
  | [] => rfl
  | (a, u) :: m => by
    have ih := put_mv f x v m
    simp only [mv, List.map_cons, put] at ih ⊢
    split
    · rfl
    · simp only [List.map_cons]; rw [ih]
theorem del_mv (f : ν → μ) (x : κ) : ∀ m : List (κ × ν), del x (mv f m) = mv f (del x m)
  | [] => rfl
  | (a, u) :: m => by
    have ih := del_mv f x m
    simp only [mv, List.map_cons, del] at ih ⊢
    split
    · rfl
    · simp only [List.map_cons]; rw [ih]
end
/-- The map in block b, elements as data. -/
abbrev MpV {κ ν : Type} (enc : κ → Value) (venc : ν → Value) (w : World) (b : Nat) (m : List (κ × ν)) : Prop := Mp enc w b (mv venc m)
section
variable {P : Program} {ρ : Operand → Value} {w : World} {dst : Option Tmp} {ty : TypeId} {pos : String} {aft : Array Edge} {g : Option (Nat × Bool)}
variable {κ ν : Type} [DecidableEq κ] {enc : κ → Value} {venc : ν → Value} {b : Nat} {m : List (κ × ν)} {T K E : TypeId}
theorem getD_map (f : ν → Value) (o : Option ν) (z : ν) : (o.map f).getD (f z) = f (o.getD z) := by cases o <;> rfl
theorem makeMapV {T : TypeId} {κ ν : Type} (enc : κ → Value) (venc : ν → Value) : DoesE P ⟨dst, .makeMap T none, ty, pos, aft, g⟩ ρ w fun v w' => v = .map (some w.heap.size) ∧ MpV enc venc w' w.heap.size [] ∧ Keep w w' ∧ w'.heap.size = w.heap.size + 1 := makeMapE enc
theorem lookupV {x y : Operand} {z : ν} {a : κ} (hT : P.underlying T = some (.map K E)) (hK : KeyT P K enc) (hz : ∀ w, (zeroValue E).run P w = .ok (venc z) w) (hM : MpV enc venc w b m) (hx : ρ x = .map (some b)) (hy : ρ y = enc a) : Does P ⟨dst, .lookup T x y false, ty, pos, aft, g⟩ ρ w (venc ((asc a m).getD z)) w := by
  have := lookupD (P := P) (ρ := ρ) (w := w) (dst := dst) (ty := ty) (pos := pos) (aft := aft) (g := g) hT hK hz hM hx hy
  rwa [asc_mv, getD_map] at this
theorem lookupOkV {x y : Operand} {z : ν} {a : κ} (hT : P.underlying T = some (.map K E)) (hK : KeyT P K enc) (hz : ∀ w, (zeroValue E).run P w = .ok (venc z) w) (hM : MpV enc venc w b m) (hx : ρ x = .map (some b)) (hy : ρ y = enc a) : Does P ⟨dst, .lookup T x y true, ty, pos, aft, g⟩ ρ w (.tuple #[venc ((asc a m).getD z), .bool (asc a m).isSome]) w := by
  have := lookupOk (P := P) (ρ := ρ) (w := w) (dst := dst) (ty := ty) (pos := pos) (aft := aft) (g := g) hT hK hz hM hx hy
  rw [asc_mv, getD_map] at this
  have e : ((asc a m).map venc).isSome = (asc a m).isSome := by cases asc a m <;> rfl
  rwa [e] at this
theorem updateV {M x y : Operand} {a : κ} {v : ν} (hT : P.underlying T = some (.map K E)) (hK : KeyT P K enc) (hM : MpV enc venc w b m) (hm : ρ M = .map (some b)) (hx : ρ x = enc a) (hy : ρ y = venc v) : DoesE P ⟨none, .mapUpdate T M x y, ty, pos, aft, g⟩ ρ w fun _ w' => MpV enc venc w' b (put a v m) ∧ Ext (fun k => k = b) w w' ∧ w'.heap.size = w.heap.size :=
  (updateE hT hK hM hm hx hy).mono fun _ w' ⟨h1, h2⟩ => ⟨by rw [put_mv] at h1; exact h1, h2⟩
theorem lenV {x : Operand} (hT : P.underlying T = some (.map K E)) (hM : MpV enc venc w b m) (hx : ρ x = .map (some b)) : Does P ⟨dst, .call ⟨.builtin .len, #[x], #[T]⟩, ty, pos, aft, g⟩ ρ w (.int .i64 (m.length : Int)) w := by
  have := lenM (P := P) (ρ := ρ) (w := w) (dst := dst) (ty := ty) (pos := pos) (aft := aft) (g := g) hT hM hx
  rwa [mv_len] at this
theorem deleteV {M x : Operand} {a : κ} {tx : TypeId} (hT : P.underlying T = some (.map K E)) (hK : KeyT P K enc) (hM : MpV enc venc w b m) (hm : ρ M = .map (some b)) (hx : ρ x = enc a) : DoesE P ⟨dst, .call ⟨.builtin .delete, #[M, x], #[T, tx]⟩, ty, pos, aft, g⟩ ρ w fun v w' => v = .tuple #[] ∧ MpV enc venc w' b (del a m) ∧ Ext (fun k => k = b) w w' ∧ w'.heap.size = w.heap.size :=
  (deleteE hT hK hM hm hx).mono fun _ w' ⟨h1, h2, h3⟩ => ⟨h1, by rw [del_mv] at h2; exact h2, h3⟩
end
end Go.Proofs.Ytgfficbkajcdpaa.X

namespace Go.Proofs.Ytgfficbkajcdpaa
open Go Go.Proofs.Ytgfficbkajcdpaa.X
set_option linter.unusedVariables false
set_option linter.unusedSimpArgs false
theorem rise_adj : ∀ {l : List TH}, (∀ (m : Nat) x y, l[m]? = some x → l[m + 1]? = some y → x.1 ≤ y.1) → Rise l
  | [], _ => List.Pairwise.nil
  | [a], _ => List.pairwise_singleton _ _
  | a :: b :: l, h => by
    have ih := rise_adj (l := b :: l) fun m x y h1 h2 => h (m + 1) x y (by simpa using h1) (by simpa using h2)
    have hab := h 0 a b rfl rfl
    refine List.pairwise_cons.2 ⟨fun z hz => ?_, ih⟩
    rcases List.mem_cons.1 hz with rfl | hz
    · exact hab
    · exact Int.le_trans hab ((List.pairwise_cons.1 ih).1 z hz)
theorem rise_at {l : List TH} (h : Rise l) {m : Nat} {x y : TH} (h1 : l[m]? = some x) (h2 : l[m + 1]? = some y) : x.1 ≤ y.1 := by
  obtain ⟨a, b⟩ := List.getElem?_eq_some_iff.1 h1
  obtain ⟨c, d⟩ := List.getElem?_eq_some_iff.1 h2
  have := List.pairwise_iff_getElem.1 h m (m + 1) a c (by omega)
  rw [b, d] at this; exact this
theorem rows_of {lo hi : Nat} {w : World} : ∀ {vs : List Value} {ls : List (List TH)}, vs.length = ls.length → (∀ (j : Nat) v, vs[j]? = some v → ∃ l A n c, ls[j]? = some l ∧ v = .slice A n c ∧ n ≤ c ∧ Sl KTh lo hi w A n l) → SlRows KTh lo hi w vs ls
  | [], [], _, _ => trivial
  | v :: vs, l :: ls, hl, h => by
    obtain ⟨l', A, n, c, h1, h2, h3, h4⟩ := h 0 v rfl
    simp at h1; subst h1
    exact ⟨⟨A, n, c, h2, h3, h4⟩, rows_of (by simpa using hl) fun j u hu => h (j + 1) u (by simpa using hu)⟩
  | [], _ :: _, hl, _ => by simp at hl
  | _ :: _, [], hl, _ => by simp at hl
def lsM (qs : List (List TH)) (n : Nat) : List (List TH) := (List.range n).map (LM qs)
theorem LL_LM {qs : List (List TH)} {n : Nat} (h : qs.length = n) : LL (lsM qs n) = LM qs := by
  funext j
  rw [LL, lsM, List.getD_eq_getElem?_getD, List.getElem?_map]
  by_cases hj : j < n
  · rw [List.getElem?_range hj]; rfl
  · rw [List.getElem?_eq_none (by simp; omega)]
    rw [LM, LL, List.getD_eq_getElem?_getD, List.getElem?_eq_none (by omega)]; rfl
theorem lsM_le {qs : List (List TH)} {n : Nat} (h : ∀ l ∈ qs, l.length ≤ 30) : ∀ l ∈ lsM qs n, l.length ≤ 30 := by
  intro l hl
  obtain ⟨j, _, rfl⟩ := List.mem_map.1 hl
  rw [LM, mkF_len]; exact LL_le h j
theorem mine_0 {α : Type} {K : Kd α} (hF : Flat K) {e : TypeId} {S : Nat → Prop} {w : World} {A : Option Addr} {n c : Nat} {xs : List α} (h : Mine K e S 0 0 w (.slice A n c) xs) (lo : Nat) (hl : ∀ k, S k → lo ≤ k) : Sl K lo w.heap.size w A n xs := by
  obtain ⟨A', c', e1, _, hs⟩ := h.slF hF lo hl
  injection e1 with e1 e2 e3
  rw [e1, e2]; exact hs
theorem mine_cap {α : Type} {K : Kd α} {e : TypeId} {S : Nat → Prop} {lo hi : Nat} {w : World} {A : Option Addr} {n c : Nat} {xs : List α} (h : Mine K e S lo hi w (.slice A n c) xs) : n ≤ c := by
  obtain ⟨A', c', e1, hc, _⟩ := h.slice
  injection e1 with _ e2 e3
  rw [e2, e3]; exact hc
-- f13 "pedigree/pedigreelaw09.rises" params [24] results [4] -> [(ResultVar.tmp 2)] nfree 0 ntmps 21 names ["
set_option maxHeartbeats 4000000 in
set_option maxRecDepth 100000 in
theorem rises_c {lo hi : Nat} {A : Option Addr} {n c : Nat} {l : List TH} (w : World) (hs : Sl KTh lo hi w A n l) : Ret Try.prog 13 #[.slice A n c] w fun r w' => ∃ bb, r = .bool bb ∧ (bb = true ↔ Rise l) ∧ Keep w w' := by
  have hl := hs.len
  have hb := hs.bound
  refine X.enter Try.func13 rfl Try.ntmps13 rfl ?_
  refine X.seq ?_
  refine X.region ?_
  refine X.opw X.wN rfl (X.assign rfl) ?_
  refine X.opsEnd ?_
  refine X.seq ?_
  refine X.seq ?_
  refine X.region ?_
  refine X.opw X.wN rfl (X.assign rfl) ?_
  refine X.opsEnd ?_
  refine X.block ?_
  -- LOOP live: 0=l, 3=i*
  refine X.loopL (σ := Nat) (fun s => [(0, .slice A n c), (3, .int .i64 (s : Int))]) (fun s w' => 1 ≤ s ∧ (s ≤ n ∨ s = 1) ∧ (∀ (m : Nat) x y, m + 1 < s → l[m]? = some x → l[m + 1]? = some y → x.1 ≤ y.1) ∧ Keep w w') (fun s => n - s) 1 ⟨rfl, rfl, trivial⟩ ⟨Nat.le_refl _, .inr rfl, fun m x y h => by omega, (Keep.refl _)⟩ ?_
  rintro i b0 wl ⟨hi1, hi2, hadj, hk⟩ hback
  have hk' := hk.size
  refine X.seq ?_
  refine X.seq ?_
  refine X.region ?_
  refine X.opw X.wN rfl (X.move (v := .int .i64 _) rfl) ?_
  refine X.opw X.wN rfl (X.move (v := .slice _ _ _) rfl) ?_
  refine X.opw X.wN rfl (X.lenSl Try.underlying24 rfl) ?_
  refine X.opP X.wN rfl rfl (X.lss rfl rfl) (fun h7 => ?_) (fun h7 => ?_)
  · obtain ⟨x, hx⟩ := get2 (i - 1) hl (by omega)
    obtain ⟨y, hy⟩ := get2 i hl (by omega)
    refine X.opsEnd ?_
    refine X.condT rfl ?_
    refine X.skip ?_
    refine X.seq ?_
    refine X.block ?_
    refine X.seq ?_
    refine X.regionD (fun _ => False) 11 (by kernel_rfl) (by kernel_rfl) (fun w1 hk1 hz1 => ?_)
    refine X.dTake 0 rfl (by kernel_rfl) (by kernel_rfl) (by kernel_rfl) (X.dwN rfl) (fun w' hk' => X.move (v := .slice _ _ _) rfl) ?_
    refine X.dTake 1 rfl (by kernel_rfl) (by kernel_rfl) (by kernel_rfl) (X.dwN rfl) (fun w' hk' => X.move (v := .int .i64 _) rfl) ?_
    refine X.dTake 2 rfl (by kernel_rfl) (by kernel_rfl) (by kernel_rfl) (X.dwN rfl) (fun w' hk' => X.idxS (hs.keep ((hk.trans hk1).trans hk')) Try.underlying24 Try.sizeOf29 rfl rfl ⟨by omega, by omega⟩) ?_
    refine X.dTake 3 rfl (by kernel_rfl) (by kernel_rfl) (by kernel_rfl) (X.dwN rfl) (fun w' hk' => X.loadSN Try.isAgg29 Try.sizeOf29 (hs.keep ((hk.trans hk1).trans hk')) hy rfl (fun _ h => h.1) rfl) ?_
    refine X.dTake 4 rfl (by kernel_rfl) (by kernel_rfl) (by kernel_rfl) (X.dwN rfl) (fun w' hk' => X.move (v := .slice _ _ _) rfl) ?_
    refine X.dTake 5 rfl (by kernel_rfl) (by kernel_rfl) (by kernel_rfl) (X.dwN rfl) (fun w' hk' => X.move (v := .int .i64 _) rfl) ?_
    refine X.dTake 6 rfl (by kernel_rfl) (by kernel_rfl) (by kernel_rfl) (X.dwN rfl) (fun w' hk' => X.sub (c := ((i - 1 : Nat) : Int)) rfl rfl (by rw [X.w_i64 (by omega)]; omega)) ?_
    refine X.dTake 7 rfl (by kernel_rfl) (by kernel_rfl) (by kernel_rfl) (X.dwN rfl) (fun w' hk' => X.idxS (hs.keep ((hk.trans hk1).trans hk')) Try.underlying24 Try.sizeOf29 rfl rfl ⟨by omega, by omega⟩) ?_
    refine X.dTake 8 rfl (by kernel_rfl) (by kernel_rfl) (by kernel_rfl) (X.dwN rfl) (fun w' hk' => X.loadSN Try.isAgg29 Try.sizeOf29 (hs.keep ((hk.trans hk1).trans hk')) hx rfl (fun _ h => h.1) rfl) ?_
    refine X.dE (i := 9) (by kernel_rfl) rfl (X.dwN rfl) (X.callE (Compare_c y x _) Try.call17 rfl rfl) (by rintro _ w2 ⟨nc, rfl, hlt, hgt, hk2⟩ _; exact hk2.mono (fun _ _ h => h.elim)) ?_
    rintro _ w2 ⟨nc, rfl, hlt, hgt, hk2⟩
    have hk2' := hk2.size
    refine X.dTake 10 rfl (by kernel_rfl) (by kernel_rfl) (by kernel_rfl) (X.dwN rfl) (fun w' hk' => X.lss rfl rfl) ?_
    refine X.dEnd (by kernel_rfl) ?_
    refine X.condB rfl (fun hc => ?_) (fun hc => ?_)
    · refine X.seq ?_
      refine X.region ?_
      refine X.opw X.wN rfl (X.assign rfl) ?_
      refine X.opsEnd ?_
      refine X.ret1 (v := (.bool _)) Try.func13 Try.results13 rfl ?_
      refine ⟨false, rfl, ⟨fun h => (by cases h), fun h => ?_⟩, ((hk.trans hk1).trans hk2)⟩
      have h1 := rise_at h hx (by rw [show i - 1 + 1 = i by omega]; exact hy)
      have h2 := hlt.1 (by simpa using hc)
      omega
    · refine X.skip ?_
      refine X.inBlock ?_
      refine X.region ?_
      refine X.opw X.wN rfl (X.move (v := .int .i64 _) rfl) ?_
      refine X.opw X.wN rfl (X.add rfl rfl (X.w_i64 (by omega))) ?_
      refine X.opw X.wN rfl (X.assign (v := .int .i64 _) rfl) ?_
      refine X.opsEnd ?_
      have hadj2 : ∀ (m : Nat) x y, m + 1 < i + 1 → l[m]? = some x → l[m + 1]? = some y → x.1 ≤ y.1 := by
        intro m a b h1 h2 h3
        by_cases e : m + 1 < i
        · exact hadj m a b e h2 h3
        · rw [show m = i - 1 by omega, hx] at h2
          rw [show m + 1 = i by omega, hy] at h3
          cases h2; cases h3
          have := mt hlt.2 (by simpa using hc)
          omega
      refine hback (i + 1) _ _ ⟨rfl, rfl, trivial⟩ ⟨by omega, .inl (by omega), hadj2, ((hk.trans hk1).trans hk2)⟩ (by omega)
  · refine X.opsEnd ?_
    refine X.condF rfl ?_
    refine X.exit rfl ?_
    refine X.seq ?_
    refine X.region ?_
    refine X.opw X.wN rfl (X.assign rfl) ?_
    refine X.opsEnd ?_
    refine X.ret1 (v := (.bool _)) Try.func13 Try.results13 rfl ?_
    exact ⟨true, rfl, ⟨fun _ => rise_adj fun m x y h1 h2 => hadj m x y (by have := (List.getElem?_eq_some_iff.1 h2).1; omega) h1 h2, fun _ => rfl⟩, hk⟩
-- f12 "pedigree/pedigreelaw09.cut" params [22] results [22] -> [(ResultVar.tmp 2)] nfree 0 ntmps 24 names ["l
set_option maxHeartbeats 4000000 in
set_option maxRecDepth 100000 in
theorem cutm_c {lo hi lo2 hi2 : Nat} {A : Option Addr} {n c : Nat} {vs : List Value} {ls : List (List TH)} (w : World) (hs : Sl KR1 lo hi w A n vs) (hr : SlRows KTh lo2 hi2 w vs ls) (hhi2 : hi2 ≤ w.heap.size) : Ret Try.prog 12 #[.slice A n c] w fun r w' => ∃ us qs A' c', r = .slice A' us.length c' ∧ Mine KR1 24 (fun k => w.heap.size ≤ k ∧ k < w'.heap.size) 0 0 w' (.slice A' us.length c') us ∧ SlRows KTh lo2 hi2 w' us qs ∧ us.length ≤ 6 ∧ (∀ l ∈ qs, l.length ≤ 30) ∧ Keep w w' := by
  have hl := hs.len
  have hrl := hr.len
  refine X.enter Try.func12 rfl Try.ntmps12 rfl ?_
  refine X.seq ?_
  refine X.region ?_
  refine X.opw X.wN rfl (X.assign rfl) ?_
  refine X.opsEnd ?_
  refine X.seq ?_
  refine X.region ?_
  refine X.opw X.wN rfl (X.assign rfl) ?_
  refine X.opsEnd ?_
  refine X.seq ?_
  refine X.seq ?_
  refine X.region ?_
  refine X.opw X.wN rfl (X.assign rfl) ?_
  refine X.opsEnd ?_
  refine X.block ?_
  -- LOOP live: 0=l, 3=out*, 4=i*
  refine X.loopL (σ := Nat × Value × List Value × List (List TH)) (fun s => [(0, .slice A n c), (3, s.2.1), (4, .int .i64 (s.1 : Int))]) (fun s w' => s.1 ≤ n ∧ s.1 ≤ 6 ∧ s.2.2.1.length = s.1 ∧ (∀ l ∈ s.2.2.2, l.length ≤ 30) ∧ Mine KR1 24 (fun k => w.heap.size ≤ k) 0 0 w' s.2.1 s.2.2.1 ∧ SlRows KTh lo2 hi2 w' s.2.2.1 s.2.2.2 ∧ Keep w w') (fun s => n - s.1) (0, _, [], []) ⟨rfl, rfl, rfl, trivial⟩ ⟨Nat.zero_le _, Nat.zero_le _, rfl, fun l h => by simp at h, Mine.nil _ _ _ _ _ _, trivial, (Keep.refl _)⟩ ?_
  rintro ⟨i, v, us, qs⟩ b0 wl ⟨hi, hi6, hul, hqs, hM0, hrw, hk⟩ hback
  dsimp only
  simp only at hi hi6 hul hqs hM0 hrw
  have hk' := hk.size
  refine X.seq ?_
  refine X.seq ?_
  refine X.region ?_
  refine X.opw X.wN rfl (X.move (v := .int .i64 _) rfl) ?_
  refine X.opw X.wN rfl (X.move (v := .slice _ _ _) rfl) ?_
  refine X.opw X.wN rfl (X.lenSl Try.underlying22 rfl) ?_
  refine X.opP X.wN rfl rfl (X.lss rfl rfl) (fun h8 => ?_) (fun h8 => ?_)
  · refine X.opw X.wN rfl (X.move (v := .bool true) rfl) ?_
    refine X.opw (X.wG rfl rfl rfl) rfl (X.move (v := .int .i64 _) rfl) ?_
    refine X.opP (X.wG rfl rfl rfl) rfl rfl (X.lss rfl rfl) (fun h11 => ?_) (fun h11 => ?_)
    · obtain ⟨vi, hvi⟩ := getV i hl (by omega)
      obtain ⟨li, Ai, ni, ci, hli, rfl, hnci, hsi⟩ := hr.get hvi
      refine X.opw X.wN rfl (X.pickT (v := .bool true) rfl rfl) ?_
      refine X.opsEnd ?_
      refine X.condT rfl ?_
      refine X.skip ?_
      refine X.seq ?_
      refine X.block ?_
      refine X.region ?_
      refine X.opw X.wN rfl (X.move rfl) ?_
      refine X.opw X.wN rfl (X.move (v := .slice _ _ _) rfl) ?_
      refine X.opw X.wN rfl (X.move (v := .int .i64 _) rfl) ?_
      refine X.opw X.wN rfl (X.idxS (hs.keep hk) Try.underlying22 Try.sizeOf24 rfl rfl ⟨by omega, by omega⟩) ?_
      refine X.opw X.wN rfl (X.loadS Try.isAgg24 (hs.keep hk) hvi rfl (fun _ h => by rw [h.1]; rfl)) ?_
      refine X.opE X.wN rfl (X.callE (short_c _ (hsi.keep hk) (by omega)) Try.call19 rfl rfl) ?_
      rintro _ w1 ⟨m1, rfl, hmc1, hm31, hs1, hk1⟩
      have hk1' := hk1.size
      refine X.opE X.wN rfl (X.litKF KR1_flat (K := KR1) (xs := [Operand.tmp 20]) (vs := [.slice Ai m1 ci]) (ys := [.slice Ai m1 ci]) Try.underlying22 Try.sizeOf24 Try.zeroValue24 rfl rfl rfl rfl rfl (reps_1 rfl rfl)) ?_
      rintro _ w2 ⟨rfl, hs2, hB2, hk2, hz2⟩
      refine X.opE X.wN rfl (X.appE (K := KR1) (S := fun k => w.heap.size ≤ k) KR1_flat Try.underlying22 ERw rfl rfl (hM0.keep (hk1.trans hk2)) hs2 (by (try simp only [List.length_append, List.length_cons, List.length_nil, List.length_take, List.length_drop, List.length_map, List.length_range]); omega) (by intros; (try simp only [] at *); omega)) ?_
      rintro v3 w3 ⟨hM3, hx3⟩
      have hx3' := hx3.size
      refine X.opw X.wN rfl (X.assign rfl) ?_
      refine X.opsEnd ?_
      refine X.inBlock ?_
      refine X.region ?_
      refine X.opw X.wN rfl (X.move (v := .int .i64 _) rfl) ?_
      refine X.opw X.wN rfl (X.add rfl rfl (X.w_i64 (by omega))) ?_
      refine X.opw X.wN rfl (X.assign (v := .int .i64 _) rfl) ?_
      refine X.opsEnd ?_
      refine hback (i + 1, _, us ++ [.slice Ai m1 ci], qs ++ [li.take 30]) _ _ ⟨rfl, rfl, rfl, trivial⟩ ⟨by dsimp only; omega, by dsimp only; omega, by dsimp only; rw [List.length_append, hul]; rfl, fun l h => (List.mem_append.1 h).elim (hqs l) (fun h => by rw [List.mem_singleton.1 h, List.length_take]; omega), hM3, rows_snoc (SlRows.ext hx3 (by intro k h1 h2; (try simp only []); omega) (SlRows.keep hk2 (SlRows.keep hk1 hrw))) (by omega) ((hs1.keep hk2).ext hx3 (by intros; (try simp only []); omega)), (((hk.trans hk1).trans hk2).step hx3 (by intros; (try simp only [] at *); omega))⟩ (by dsimp only; omega)
    · refine X.opw X.wN rfl (X.pickT (v := .bool false) rfl rfl) ?_
      refine X.opsEnd ?_
      refine X.condF rfl ?_
      refine X.exit rfl ?_
      refine X.seq ?_
      refine X.region ?_
      refine X.opw X.wN rfl (X.move rfl) ?_
      refine X.opw X.wN rfl (X.assign rfl) ?_
      refine X.opsEnd ?_
      refine X.ret1 Try.func12 Try.results12 rfl ?_
      have hMx := hM0
      obtain ⟨A', c', e, hc', hs'⟩ := hMx.slF KR1_flat 0 (fun _ _ => Nat.zero_le _)
      subst e
      exact ⟨us, qs, A', c', rfl, hMx.mono (fun k hk h => ⟨h, hk⟩), hrw, by omega, hqs, hk⟩
  · refine X.opw X.wN rfl (X.move (v := .bool false) rfl) ?_
    refine X.opS rfl rfl rfl rfl rfl ?_
    refine X.opS rfl rfl rfl rfl rfl ?_
    refine X.opw X.wN rfl (X.pickF (v := .bool false) rfl rfl) ?_
    refine X.opsEnd ?_
    refine X.condF rfl ?_
    refine X.exit rfl ?_
    refine X.seq ?_
    refine X.region ?_
    refine X.opw X.wN rfl (X.move rfl) ?_
    refine X.opw X.wN rfl (X.assign rfl) ?_
    refine X.opsEnd ?_
    refine X.ret1 Try.func12 Try.results12 rfl ?_
    have hMx := hM0
    obtain ⟨A', c', e, hc', hs'⟩ := hMx.slF KR1_flat 0 (fun _ _ => Nat.zero_le _)
    subst e
    exact ⟨us, qs, A', c', rfl, hMx.mono (fun k hk h => ⟨h, hk⟩), hrw, by omega, hqs, hk⟩
-- f3 "pedigree/pedigreelaw09.MergeOrder" params [22] results [4] -> [(ResultVar.tmp 2)] nfree 0 ntmps 142 nam
set_option maxHeartbeats 4000000 in
set_option maxRecDepth 100000 in
theorem MergeOrder_c (w : World) (A1 : Option Addr) (n1 c1 : Nat) (l1 : List (List TH)) (hc1 : n1 ≤ c1) (s1 : Sl (Kd.slice (Kd.pair (KN .i8) KI)) 0 w.heap.size w A1 n1 l1) :
    Ret Try.prog 3 #[.slice A1 n1 c1] w fun r w' => r = .bool true ∧ Keep w w' := by
  obtain ⟨vs, hs, hrows0⟩ := s1.rows
  have hrows := rows_things hrows0
  refine X.enter Try.func3 rfl Try.ntmps3 rfl ?_
  refine X.seq ?_
  refine X.region ?_
  refine X.opw X.wN rfl (X.assign rfl) ?_
  refine X.opsEnd ?_
  refine X.seq ?_
  refine X.region ?_
  refine X.opw X.wN rfl (X.move (v := .slice _ _ _) rfl) ?_
  refine X.opE X.wN rfl (X.callE (cutm_c _ hs hrows (Nat.le_refl _)) Try.call12 rfl rfl) ?_
  rintro _ w1 ⟨us0, qs, A0, c0, rfl, hMu0, hr0, hu6, hq30, hk1⟩
  have hk1' := hk1.size
  refine X.opw X.wN rfl (X.assign rfl) ?_
  refine X.opsEnd ?_
  refine X.seq ?_
  refine X.region ?_
  refine X.opw X.wN rfl (X.assign rfl) ?_
  refine X.opsEnd ?_
  refine X.seq ?_
  refine X.seq ?_
  refine X.region ?_
  refine X.opw X.wN rfl (X.assign rfl) ?_
  refine X.opsEnd ?_
  refine X.block ?_
  -- LOOP live: 0=l, 3=all*, 4=i*
  have hqn : us0.length = qs.length := hr0.len
  have hMu1 := hMu0
  refine X.loopL (σ := Nat × Value × List Value × List (Nat × Nat)) (fun s => [(0, .slice A0 us0.length c0), (3, s.2.1), (4, .int .i64 (s.1 : Int))]) (fun s w' => s.1 ≤ us0.length ∧ s.2.2.1.length = us0.length ∧ s.2.2.2.length = s.1 ∧ Mine KR1 24 (fun k => w.heap.size ≤ k ∧ k < w1.heap.size) 0 0 w' (.slice A0 us0.length c0) s.2.2.1 ∧ Mine KTh 29 (fun k => w1.heap.size ≤ k ∧ ∀ p, p ∈ s.2.2.2 → ¬ (p.1 ≤ k ∧ k < p.2)) 0 0 w' s.2.1 (catL (LM qs) s.1) ∧ (∀ j, j < s.1 → ∃ A n c p, s.2.2.1[j]? = some (.slice A n c) ∧ n ≤ c ∧ s.2.2.2[j]? = some p ∧ Sl KTh p.1 p.2 w' A n (LM qs j)) ∧ (∀ j, s.1 ≤ j → s.2.2.1[j]? = us0[j]?) ∧ (∀ p, p ∈ s.2.2.2 → w1.heap.size ≤ p.1 ∧ p.2 ≤ w'.heap.size) ∧ (∀ j l, j < s.1 → qs[j]? = some l → Rise l) ∧ SlRows KTh 0 w.heap.size w' us0 qs ∧ w1.heap.size ≤ w'.heap.size ∧ Keep w w') (fun s => us0.length - s.1) (0, _, us0, []) ⟨rfl, rfl, rfl, trivial⟩ ⟨Nat.zero_le _, rfl, rfl, hMu1, Mine.nil _ _ _ _ _ _, fun j h => by omega, fun _ _ => rfl, fun p h => by simp at h, fun j l h => by omega, hr0, by omega, hk1⟩ ?_
  rintro ⟨i, va, us, tb⟩ b0 wl ⟨hi, hul, htl, hMu, hMa, hrw, hus, htb, hris, hr, hwl, hk⟩ hback
  dsimp only
  simp only at hi hul htl hMu hMa hrw hus htb hris
  have hk' := hk.size
  have hSu := mine_0 KR1_flat hMu 0 (fun _ _ => Nat.zero_le _)
  refine X.seq ?_
  refine X.seq ?_
  refine X.region ?_
  refine X.opw X.wN rfl (X.move (v := .int .i64 _) rfl) ?_
  refine X.opw X.wN rfl (X.move (v := .slice _ _ _) rfl) ?_
  refine X.opw X.wN rfl (X.lenSl Try.underlying22 rfl) ?_
  refine X.opP X.wN rfl rfl (X.lss rfl rfl) (fun h17 => ?_) (fun h17 => ?_)
  · obtain ⟨vi, hvi0⟩ := getV (vs := us0) i rfl (by omega)
    have hvi : us[i]? = some vi := by rw [hus i (Nat.le_refl _)]; exact hvi0
    obtain ⟨li, Ai, ni, ci, hli, rfl, hnci, hsi⟩ := hr.get hvi0
    have hlen30 := hq30 li (List.mem_of_getElem? hli)
    have hlil := hsi.len
    have hLi : LM qs i = mkF i 0 li := by rw [LM, LL, List.getD_eq_getElem?_getD, hli]; rfl
    refine X.opsEnd ?_
    refine X.condT rfl ?_
    refine X.skip ?_
    refine X.seq ?_
    refine X.block ?_
    refine X.seq ?_
    refine X.seq ?_
    refine X.region ?_
    refine X.opw X.wN rfl (X.move (v := .slice _ _ _) rfl) ?_
    refine X.opw X.wN rfl (X.move (v := .int .i64 _) rfl) ?_
    refine X.opw X.wN rfl (X.idxS hSu Try.underlying22 Try.sizeOf24 rfl rfl ⟨by omega, by omega⟩) ?_
    refine X.opw X.wN rfl (X.loadS Try.isAgg24 hSu hvi rfl (fun _ h => by rw [h.1]; rfl)) ?_
    refine X.opE X.wN rfl (X.callE (rises_c _ hsi) Try.call13 rfl rfl) ?_
    rintro _ w2 ⟨bb2, rfl, hbb2, hk2⟩
    have hk2' := hk2.size
    refine X.opw X.wN rfl (X.not_ rfl) ?_
    refine X.opsEnd ?_
    refine X.condB rfl (fun hc => ?_) (fun hc => ?_)
    · refine X.seq ?_
      refine X.region ?_
      refine X.opE X.wN rfl (X.callE (alive_c _) Try.call14 rfl rfl) ?_
      rintro _ w3 ⟨rfl, hk3⟩
      have hk3' := hk3.size
      refine X.opw X.wN rfl (X.assign (v := .bool _) rfl) ?_
      refine X.opsEnd ?_
      refine X.ret1 (v := (.bool _)) Try.func3 Try.results3 rfl ?_
      exact ⟨rfl, ((hk.trans hk2).trans hk3)⟩
    · have hrli : Rise li := (hbb2).1 (by simpa using hc)
      refine X.skip ?_
      refine X.seq ?_
      refine X.region ?_
      refine X.opE X.wN rfl (X.lit0E (K := KTh) (S := fun k => wl.heap.size ≤ k) Try.underlying24 Try.sizeOf29 (by intros; (try simp only [] at *); omega)) ?_
      rintro v4 w4 ⟨hM4, hk4, hz4⟩
      refine X.opw X.wN rfl (X.move (v := .slice _ _ _) rfl) ?_
      refine X.opw X.wN rfl (X.move (v := .int .i64 _) rfl) ?_
      refine X.opw X.wN rfl (X.idxS (hSu.keep (hk2.trans hk4)) Try.underlying22 Try.sizeOf24 rfl rfl ⟨by omega, by omega⟩) ?_
      refine X.opw X.wN rfl (X.loadS Try.isAgg24 (hSu.keep (hk2.trans hk4)) hvi rfl (fun _ h => by rw [h.1]; rfl)) ?_
      refine X.opE X.wN rfl (X.appE (K := KTh) (S := fun k => wl.heap.size ≤ k) KTh_flat Try.underlying24 ETh rfl rfl hM4 (hsi.keep (hk2.trans hk4)) (by (try simp only [List.length_append, List.length_cons, List.length_nil, List.length_take, List.length_drop, List.length_map, List.length_range]); omega) (by intros; (try simp only [] at *); omega)) ?_
      rintro v5 w5 ⟨hM5, hx5⟩
      have hx5' := hx5.size
      refine X.opw X.wN rfl (X.assign rfl) ?_
      refine X.opsEnd ?_
      refine X.seq ?_
      refine X.seq ?_
      refine X.region ?_
      refine X.opw X.wN rfl (X.assign rfl) ?_
      refine X.opsEnd ?_
      refine X.block ?_
      -- LOOP live: 0=l, 3=all, 4=i, 5=row, 6=k*
      have hMr0 := hM5
      rw [List.nil_append] at hMr0
      obtain ⟨A5, c5, e5, hc5, hs5⟩ := hMr0.slF KTh_flat 0 (fun _ _ => Nat.zero_le _)
      subst e5
      have hkw := ((hk2.trans hk4).step hx5 (by intros; (try simp only [] at *); omega))
      refine X.loopL (σ := Nat) (fun s => [(0, .slice A0 us0.length c0), (3, va), (4, .int .i64 (i : Int)), (5, .slice A5 li.length c5), (6, .int .i64 (s : Int))]) (fun s w' => s ≤ li.length ∧ Mine KTh 29 (fun k => wl.heap.size ≤ k) 0 0 w' (.slice A5 li.length c5) ((mkF i 0 li).take s ++ li.drop s) ∧ Keep wl w' ∧ Keep w w') (fun s => li.length - s) 0 ⟨rfl, rfl, rfl, rfl, rfl, trivial⟩ ⟨Nat.zero_le _, by simpa using hMr0, hkw, (((hk.trans hk2).trans hk4).step hx5 (by intros; (try simp only [] at *); omega))⟩ ?_
      rintro k b2 wm ⟨hkl, hMr, hwm, hkm⟩ hback2
      have hkm' := hkm.size
      have hwm' := hwm.size
      have hSr := mine_0 KTh_flat hMr wl.heap.size (fun _ h => h)
      have hMum := hMu.keep hwm
      have hSum := mine_0 KR1_flat hMum 0 (fun _ _ => Nat.zero_le _)
      have hMam := hMa.keep hwm
      refine X.seq ?_
      refine X.seq ?_
      refine X.region ?_
      refine X.opw X.wN rfl (X.move (v := .int .i64 _) rfl) ?_
      refine X.opw X.wN rfl (X.move (v := .slice _ _ _) rfl) ?_
      refine X.opw X.wN rfl (X.lenSl Try.underlying24 rfl) ?_
      refine X.opP X.wN rfl rfl (X.lss rfl rfl) (fun h36 => ?_) (fun h36 => ?_)
      · obtain ⟨x, hx⟩ := get2 k (l := li) rfl (by omega)
        refine X.opsEnd ?_
        refine X.condT rfl ?_
        refine X.skip ?_
        refine X.seq ?_
        refine X.block ?_
        refine X.region ?_
        refine X.opw X.wN rfl (X.move (v := .slice _ _ _) rfl) ?_
        refine X.opw X.wN rfl (X.move (v := .int .i64 _) rfl) ?_
        refine X.opw X.wN rfl (X.move (v := .int .i64 _) rfl) ?_
        refine X.opw X.wN rfl (X.mul (c := ((30 * i : Nat) : Int)) rfl rfl (by rw [X.w_i64 (by omega)]; omega)) ?_
        refine X.opw X.wN rfl (X.move (v := .int .i64 _) rfl) ?_
        refine X.opw X.wN rfl (X.add (c := ((30 * i + k : Nat) : Int)) rfl rfl (by rw [X.w_i64 (by omega)]; omega)) ?_
        refine X.opw X.wN rfl (X.idxS hSr Try.underlying24 Try.sizeOf29 rfl rfl ⟨by omega, by omega⟩) ?_
        refine X.opw X.wN rfl (X.fldA Try.underlying29 rfl rfl Try.sizeOf3) ?_
        refine X.opE X.wN rfl (X.storeMF (K := KTh) (y := x) (y' := (x.1, ((30 * i + k : Nat) : Int))) (vs := [.int .i64 ((30 * i + k : Nat) : Int)]) (i := 1) (j := k) KTh_flat Try.sizeOf3 hMr (mkF_at hx) rfl rfl rfl (fun u hu => by simp at hu; subst hu; rfl) (show 1 + 1 ≤ 2 by omega) (fun a h => ⟨by rw [h.1]; rfl, trivial⟩)) ?_
        rintro _ w6 ⟨hM6, hx6, hz6⟩
        refine X.opsEnd ?_
        refine X.inBlock ?_
        refine X.region ?_
        refine X.opw X.wN rfl (X.move (v := .int .i64 _) rfl) ?_
        refine X.opw X.wN rfl (X.add rfl rfl (X.w_i64 (by omega))) ?_
        refine X.opw X.wN rfl (X.assign (v := .int .i64 _) rfl) ?_
        refine X.opsEnd ?_
        refine hback2 (k + 1) _ _ ⟨rfl, rfl, rfl, rfl, rfl, trivial⟩ ⟨by omega, by rw [← mkF_step i li k x hx]; exact hM6, (hwm.step hx6 (by intros; (try simp only [] at *); omega)), (hkm.step hx6 (by intros; (try simp only [] at *); omega))⟩ (by omega)
      · have hkli : k = li.length := by omega
        rw [hkli, List.drop_length, List.append_nil, List.take_of_length_le (by rw [mkF_len]; exact Nat.le_refl _), ← hLi] at hMr
        have hSrow := mine_0 KTh_flat hMr wl.heap.size (fun _ h => h)
        have hcat : (catL (LM qs) i).length ≤ 1000 := by
          have : ∀ n, (catL (LM qs) n).length ≤ 30 * n := by
            intro n
            induction n with
            | zero => simp [catL]
            | succ n ih => rw [catL, List.length_append, LM, mkF_len]; have := LL_le hq30 n; omega
          have := this i
          omega
        have hLil : (LM qs i).length = li.length := by rw [hLi, mkF_len]
        refine X.opsEnd ?_
        refine X.condF rfl ?_
        refine X.exit rfl ?_
        refine X.seq ?_
        refine X.region ?_
        refine X.opw X.wN rfl (X.move (v := .slice _ _ _) rfl) ?_
        refine X.opw X.wN rfl (X.move (v := .int .i64 _) rfl) ?_
        refine X.opw X.wN rfl (X.move (v := .slice _ _ _) rfl) ?_
        refine X.opw X.wN rfl (X.idxS hSum Try.underlying22 Try.sizeOf24 rfl rfl ⟨by omega, by omega⟩) ?_
        refine X.opE X.wN rfl (X.storeME (K := KR1) (j := i) (vs := [.slice A5 li.length c5]) KR1_flat Try.sizeOf24 hMum (by omega) rfl rfl rfl (fun u hu => by simp at hu; subst hu; rfl) rfl ⟨rfl, rfl⟩) ?_
        rintro _ w7 ⟨hM7, hx7, hz7⟩
        refine X.opsEnd ?_
        refine X.region ?_
        refine X.opw X.wN rfl (X.move rfl) ?_
        refine X.opw X.wN rfl (X.move (v := .slice _ _ _) rfl) ?_
        have htb2 : ∀ p, p ∈ tb ++ [(wl.heap.size, w7.heap.size)] → w1.heap.size ≤ p.1 ∧ p.2 ≤ w7.heap.size := fun p hp => (List.mem_append.1 hp).elim (fun h => by have := htb p h; omega) (fun h => by rw [List.mem_singleton.1 h]; (try simp only []); omega)
        have hMa2 := (Mine.mono (T := fun k => w1.heap.size ≤ k ∧ ∀ p, p ∈ (tb ++ [(wl.heap.size, w7.heap.size)]) → ¬ (p.1 ≤ k ∧ k < p.2)) hMa (fun k hk hs => ⟨hs.1, fun p hp => (List.mem_append.1 hp).elim (hs.2 p) (fun hp => by rw [List.mem_singleton.1 hp]; (try simp only []); omega)⟩)).keep hwm
        refine X.opE X.wN rfl (X.appE (K := KTh) (S := fun k => w1.heap.size ≤ k ∧ ∀ p, p ∈ (tb ++ [(wl.heap.size, w7.heap.size)]) → ¬ (p.1 ≤ k ∧ k < p.2)) KTh_flat Try.underlying24 ETh rfl rfl (hMa2.ext hx7 (by intros; first | omega | ((try simp only [] at *); omega)) (by intros; first | omega | ((try simp only [] at *); omega))) (hSrow.ext hx7 (by intros; first | omega | ((try simp only [] at *); omega))) (by omega) (fun k hk => ⟨by omega, fun p hp h => by have := htb2 p hp; omega⟩)) ?_
        rintro v8 w8 ⟨hM8, hx8⟩
        have hx8' := hx8.size
        refine X.opw X.wN rfl (X.assign rfl) ?_
        refine X.opsEnd ?_
        refine X.inBlock ?_
        refine X.region ?_
        refine X.opw X.wN rfl (X.move (v := .int .i64 _) rfl) ?_
        refine X.opw X.wN rfl (X.add rfl rfl (X.w_i64 (by omega))) ?_
        refine X.opw X.wN rfl (X.assign (v := .int .i64 _) rfl) ?_
        refine X.opsEnd ?_
        have hSrow2 := (hSrow.ext hx7 (fun k h1 h2 h => by have h : w.heap.size ≤ k ∧ k < w1.heap.size := h; omega)).ext hx8 (fun k h1 h2 h => h.2 (wl.heap.size, w7.heap.size) (List.mem_append_right _ (by simp)) ⟨h1, by (try simp only []); omega⟩)
        have hrw2 : ∀ j, j < i + 1 → ∃ A n c p, (us.set i (.slice A5 li.length c5))[j]? = some (.slice A n c) ∧ n ≤ c ∧ (tb ++ [(wl.heap.size, w7.heap.size)])[j]? = some p ∧ Sl KTh p.1 p.2 w8 A n (LM qs j) := by
          intro j hj
          by_cases e : j = i
          · subst e
            refine ⟨A5, li.length, c5, (wl.heap.size, w7.heap.size), by rw [List.getElem?_set]; simp; omega, mine_cap hMr, by rw [List.getElem?_append_right (by omega), show j - tb.length = 0 by omega]; rfl, ?_⟩
            exact hSrow2.wide (Nat.le_refl _) (by omega)
          · obtain ⟨A, n, c, p, q1, q2, q3, q4⟩ := hrw j (by omega)
            have hp := htb p (List.mem_of_getElem? q3)
            refine ⟨A, n, c, p, by rw [List.getElem?_set, if_neg (fun h => e h.symm)]; exact q1, q2, by rw [List.getElem?_append_left (by omega)]; exact q3, ?_⟩
            exact ((q4.keep hwm).ext hx7 (fun k h1 h2 h => by have h : w.heap.size ≤ k ∧ k < w1.heap.size := h; omega)).ext hx8 (fun k h1 h2 h => h.2 p (List.mem_append_left _ (List.mem_of_getElem? q3)) ⟨h1, h2⟩)
        have hris2 : ∀ j l, j < i + 1 → qs[j]? = some l → Rise l := by
          intro j l hj hl
          by_cases e : j = i
          · rw [e, hli] at hl; cases hl; exact hrli
          · exact hris j l (by omega) hl
        refine hback (i + 1, _, us.set i (.slice A5 li.length c5), tb ++ [(wl.heap.size, w7.heap.size)]) _ _ ⟨rfl, rfl, rfl, trivial⟩ ⟨by dsimp only; omega, by dsimp only; rw [List.length_set]; exact hul, by dsimp only; rw [List.length_append, htl]; rfl, (hM7.ext hx8 (by intros; omega) (fun k h1 h2 => by have h1 : w.heap.size ≤ k ∧ k < w1.heap.size := h1; have h2 := h2.1; omega)), hM8, hrw2, fun j hj => by (try dsimp only at hj ⊢); rw [List.getElem?_set, if_neg (by omega)]; exact hus j (by omega), fun p hp => by have := htb2 p hp; (try dsimp only); omega, hris2, (SlRows.ext hx8 (by intro k h1 h2 h; have h := h.1; (try simp only [] at h); omega) ((SlRows.ext hx7 (by intro k h1 h2 h; have h := h.1; (try simp only [] at h); omega) (SlRows.keep hwm hr)))), by omega, ((hkm.step hx7 (by intros; (try simp only [] at *); omega)).step hx8 (by intros; (try simp only [] at *); omega))⟩ (by dsimp only; omega)
  · have hin : i = us0.length := by omega
    have hrowsM : SlRows KTh 0 wl.heap.size wl us (lsM qs us0.length) := rows_of (by rw [hul, lsM, List.length_map, List.length_range]) (fun j v hv => by
      have hj := (List.getElem?_eq_some_iff.1 hv).1
      obtain ⟨A, n, c, p, q1, q2, q3, q4⟩ := hrw j (by omega)
      rw [q1] at hv; cases hv
      have hp := htb p (List.mem_of_getElem? q3)
      exact ⟨_, A, n, c, by rw [lsM, List.getElem?_map, List.getElem?_range (by omega)]; rfl, rfl, q2, q4.wide (Nat.zero_le _) hp.2⟩)
    have hLL : LL (lsM qs us0.length) = LM qs := LL_LM hqn.symm
    have h30M := lsM_le (n := us0.length) hq30
    have hrall : ∀ l ∈ qs, Rise l := fun l hl => by
      obtain ⟨j, hj⟩ := List.mem_iff_getElem?.1 hl
      exact hris j l (by have := (List.getElem?_eq_some_iff.1 hj).1; omega) hj
    obtain ⟨hperm, hlex, hnd⟩ := order_law hq30 hrall us0.length
    rw [hin] at hMa
    obtain ⟨A3, c3, e3, hc3, hs3⟩ := hMa.slF KTh_flat 0 (fun _ _ => Nat.zero_le _)
    subst e3
    refine X.opsEnd ?_
    refine X.condF rfl ?_
    refine X.exit rfl ?_
    refine X.seq ?_
    refine X.region ?_
    refine X.opw X.wN rfl (X.move (v := .slice _ _ _) rfl) ?_
    refine X.opE X.wN rfl (X.callE (cursors_c _ hSu hrowsM (by omega) (by omega) h30M) Try.call18 rfl rfl) ?_
    rintro _ w9 ⟨cs, A9, c9, Tj, rfl, hc9, hs9, hTj, hdis, hcv, hk9⟩
    have hk9' := hk9.size
    refine X.opE X.wN rfl (X.callE (Merge_c (B := wl.heap.size) (a := wl.heap.size) (L := LL (lsM qs us0.length)) (Tj := Tj) _ hs9 (by omega) (Nat.le_refl _) (by omega) (fun j hj k hk => by have := hTj j hj k hk; omega) hdis (fun j y h => (hcv j y h)) cmp17) Try.call16 rfl rfl) ?_
    rintro _ w10 ⟨⟨p10, rfl⟩, hC10, hk10⟩
    have hk10' := hk10.size
    refine X.opE X.wN rfl (X.callE (rest_b _ (CV.cur hC10) (by omega) (fun k hk => by (try simp only [] at *); omega) (mg_lt h30M (by omega))) Try.call15 rfl rfl) ?_
    rintro _ w11 ⟨v11, rfl, hM11, hx11⟩
    have hx11' := hx11.size
    refine X.opw X.wN rfl (X.move rfl) ?_
    refine X.opw X.wN rfl (X.extr rfl rfl) ?_
    refine X.opw X.wN rfl (X.extr rfl rfl) ?_
    refine X.opw X.wN rfl (X.assign rfl) ?_
    refine X.opw X.wN rfl (X.assign (v := .bool _) rfl) ?_
    refine X.opsEnd ?_
    refine X.seq ?_
    refine X.seq ?_
    refine X.region ?_
    refine X.opw X.wN rfl (X.move (v := .bool true) rfl) ?_
    refine X.opw X.wN rfl (X.not_ rfl) ?_
    refine X.opw X.wN rfl (X.move (v := .bool false) rfl) ?_
    refine X.opw (X.wG rfl rfl rfl) rfl (X.move rfl) ?_
    have q12 := hM11.slF KTh_flat 0 (fun _ _ => Nat.zero_le _)
    obtain ⟨A12, c12, rfl, hc12, hs12⟩ := q12
    refine X.opw (X.wG rfl rfl rfl) rfl (X.lenSl Try.underlying24 rfl) ?_
    refine X.opw (X.wG rfl rfl rfl) rfl (X.move (v := .slice _ _ _) rfl) ?_
    refine X.opw (X.wG rfl rfl rfl) rfl (X.lenSl Try.underlying24 rfl) ?_
    refine X.opP (X.wG rfl rfl rfl) rfl rfl (X.neI rfl rfl) (fun h68 => ?_) (fun h68 => ?_)
    · rw [hLL] at h68
      exact absurd (by have := hperm.length_eq; omega) h68
    · refine X.opw X.wN rfl (X.pickF (v := .bool false) rfl rfl) ?_
      refine X.opw X.wN rfl (X.move (v := .bool false) rfl) ?_
      refine X.opw (X.wG rfl rfl rfl) rfl (X.move rfl) ?_
      refine X.opE (X.wG rfl rfl rfl) rfl (X.callE (rises_c _ hs12) Try.call13 rfl rfl) ?_
      rintro _ w13 ⟨bb13, rfl, hbb13, hk13⟩
      have hk13' := hk13.size
      refine X.opw (X.wG rfl rfl rfl) rfl (X.not_ rfl) ?_
      refine X.opw X.wN rfl (X.pickF (v := .bool _) rfl rfl) ?_
      refine X.opsEnd ?_
      refine X.condB rfl (fun hc => ?_) (fun hc => ?_)
      · exact absurd ((hbb13).2 (lex_rise (by rw [hLL]; exact hlex))) (by simp at hc; simp [hc])
      · refine X.skip ?_
        refine X.seq ?_
        refine X.region ?_
        refine X.opE X.wN rfl (X.makeMapV (fun n : Int => Value.int .i64 n) Value.bool) ?_
        rintro _ w14 ⟨rfl, hG14, hk14, hz14⟩
        refine X.opw X.wN rfl (X.assign rfl) ?_
        refine X.opsEnd ?_
        refine X.seq ?_
        refine X.seq ?_
        refine X.region ?_
        refine X.opw X.wN rfl (X.assign rfl) ?_
        refine X.opsEnd ?_
        refine X.block ?_
        -- LOOP live: 3=all, 7=a, 9=seen, 10=i*
        have hal2 := mg_lt (n := us0.length) h30M (by omega)
        have hal : (mgC us0.length (LL (lsM qs us0.length))).length = (catL (LM qs) us0.length).length := by rw [hLL]; exact hperm.length_eq
        have halx : (mgC us0.length (LL (lsM qs us0.length))).Pairwise LexR := by rw [hLL]; exact hlex
        have hand : ((mgC us0.length (LL (lsM qs us0.length))).map (·.2)).Nodup := by rw [hLL]; exact hnd
        have hamem : ∀ x, x ∈ catL (LM qs) us0.length → x.2 ∈ (mgC us0.length (LL (lsM qs us0.length))).map (·.2) := fun x hx => by rw [hLL]; exact List.mem_map.2 ⟨x, hperm.mem_iff.2 hx, rfl⟩
        have hs7b := (hs12.keep (hk13.trans hk14))
        have hs3b := (((hs3.keep (hk9.trans hk10)).ext hx11 (by intros; first | omega | ((try simp only [] at *); omega))).keep (hk13.trans hk14))
        have hwb : w13.heap.size < w14.heap.size := by omega
        refine X.loopL (σ := Nat × List (Int × Bool)) (fun s => [(3, .slice A3 (catL (LM qs) us0.length).length c3), (7, .slice A12 (mgC us0.length (LL (lsM qs us0.length))).length c12), (9, .map (some w13.heap.size)), (10, .int .i64 (s.1 : Int))]) (fun s w' => s.1 ≤ (mgC us0.length (LL (lsM qs us0.length))).length ∧ (∀ z, asc z s.2 = if z ∈ ((mgC us0.length (LL (lsM qs us0.length))).take s.1).map (·.2) then some true else none) ∧ MpV (fun n : Int => Value.int .i64 n) Value.bool w' (w13.heap.size) s.2 ∧ Ext (fun k => k = w13.heap.size) w14 w' ∧ w14.heap.size ≤ w'.heap.size ∧ Keep w w') (fun s => (mgC us0.length (LL (lsM qs us0.length))).length - s.1) (0, []) ⟨rfl, rfl, rfl, rfl, trivial⟩ ⟨Nat.zero_le _, fun z => rfl, hG14, Ext.refl _ _, Nat.le_refl _, (((((hk.trans hk9).trans hk10).step hx11 (by intros; (try simp only [] at *); omega)).trans hk13).trans hk14)⟩ ?_
        rintro ⟨i2, ms⟩ b3 wn ⟨hi2, hsn, hG, hxw, hwn, hkn⟩ hback3
        dsimp only
        simp only at hi2 hsn hG
        have hkn' := hkn.size
        refine X.seq ?_
        refine X.seq ?_
        refine X.region ?_
        refine X.opw X.wN rfl (X.move (v := .int .i64 _) rfl) ?_
        refine X.opw X.wN rfl (X.move (v := .slice _ _ _) rfl) ?_
        refine X.opw X.wN rfl (X.lenSl Try.underlying24 rfl) ?_
        refine X.opP X.wN rfl rfl (X.lss rfl rfl) (fun h79 => ?_) (fun h79 => ?_)
        · obtain ⟨y, hy⟩ := get2 (l := mgC us0.length (LL (lsM qs us0.length))) i2 rfl (by omega)
          have hyn : y.2 ∉ ((mgC us0.length (LL (lsM qs us0.length))).take i2).map (·.2) := fun h => by
            obtain ⟨j, hj⟩ := List.mem_iff_getElem?.1 h
            rw [List.getElem?_map, List.getElem?_take] at hj
            split at hj
            · rename_i hji
              obtain ⟨z, hz1, hz2⟩ := Option.map_eq_some_iff.1 hj
              obtain ⟨g1, g2⟩ := List.getElem?_eq_some_iff.1 hz1
              obtain ⟨g3, g4⟩ := List.getElem?_eq_some_iff.1 hy
              have := List.pairwise_iff_getElem.1 hand j i2 (by simpa using g1) (by simpa using g3) hji
              simp only [List.getElem_map, g2, g4] at this
              exact this hz2
            · simp at hj
          refine X.opsEnd ?_
          refine X.condT rfl ?_
          refine X.skip ?_
          refine X.seq ?_
          refine X.block ?_
          refine X.seq ?_
          refine X.seq ?_
          refine X.regionD (fun _ => False) 39 (by kernel_rfl) (by kernel_rfl) (fun w15 hk15 hz15 => ?_)
          refine X.dTake 0 rfl (by kernel_rfl) (by kernel_rfl) (by kernel_rfl) (X.dwN rfl) (fun w' hk' => X.move rfl) ?_
          refine X.dTake 1 rfl (by kernel_rfl) (by kernel_rfl) (by kernel_rfl) (X.dwN rfl) (fun w' hk' => X.move (v := .slice _ _ _) rfl) ?_
          refine X.dTake 2 rfl (by kernel_rfl) (by kernel_rfl) (by kernel_rfl) (X.dwN rfl) (fun w' hk' => X.move (v := .int .i64 _) rfl) ?_
          refine X.dTake 3 rfl (by kernel_rfl) (by kernel_rfl) (by kernel_rfl) (X.dwN rfl) (fun w' hk' => X.idxS ((hs7b.ext hxw (by intros; (try simp only []); omega)).keep (hk15.trans hk')) Try.underlying24 Try.sizeOf29 rfl rfl ⟨by omega, by omega⟩) ?_
          refine X.dTake 4 rfl (by kernel_rfl) (by kernel_rfl) (by kernel_rfl) (X.dwN rfl) (fun w' hk' => X.fldA Try.underlying29 rfl rfl Try.sizeOf3) ?_
          refine X.dTake 5 rfl (by kernel_rfl) (by kernel_rfl) (by kernel_rfl) (X.dwN rfl) (fun w' hk' => X.loadSf Try.isAgg3 ((hs7b.ext hxw (by intros; (try simp only []); omega)).keep (hk15.trans hk')) hy rfl (fun _ h => by rw [h.1]; rfl)) ?_
          refine X.dTake 6 rfl (by kernel_rfl) (by kernel_rfl) (by kernel_rfl) (X.dwN rfl) (fun w' hk' => X.lookupV (enc := (fun n : Int => Value.int .i64 n)) (venc := Value.bool) (z := false) Try.underlying38 (X.keyInt Try.underlying3) Try.zeroValue4 (hG.keep (hk15.trans hk')) rfl rfl) ?_
          refine X.dTake 7 rfl (by kernel_rfl) (by kernel_rfl) (by kernel_rfl) (X.dwN rfl) (fun w' hk' => X.move (v := .bool _) rfl) ?_
          refine X.dFork 89 rfl (fun h89 => ?_) (fun h89 => ?_)
          · rw [hsn, if_neg hyn] at h89; cases h89
          · refine X.dTake 8 rfl (by kernel_rfl) (by kernel_rfl) (by kernel_rfl) (X.dwG rfl rfl rfl) (fun w' hk' => X.move (v := .int .i64 _) rfl) ?_
            refine X.dTake 9 rfl (by kernel_rfl) (by kernel_rfl) (by kernel_rfl) (X.dwG rfl rfl rfl) (fun w' hk' => X.gtr rfl rfl) ?_
            refine X.dTake 10 rfl (by kernel_rfl) (by kernel_rfl) (by kernel_rfl) (X.dwG rfl rfl rfl) (fun w' hk' => X.move (v := .bool _) rfl) ?_
            refine X.dFork 92 rfl (fun h92 => ?_) (fun h92 => ?_)
            · have h92p : 0 < i2 := by have := of_decide_eq_true h92; omega
              obtain ⟨z, hz⟩ := get2 (l := mgC us0.length (LL (lsM qs us0.length))) (i2 - 1) rfl (by omega)
              refine X.dTake 11 rfl (by kernel_rfl) (by kernel_rfl) (by kernel_rfl) (X.dwG rfl rfl rfl) (fun w' hk' => X.move (v := .slice _ _ _) rfl) ?_
              refine X.dTake 12 rfl (by kernel_rfl) (by kernel_rfl) (by kernel_rfl) (X.dwG rfl rfl rfl) (fun w' hk' => X.move (v := .int .i64 _) rfl) ?_
              refine X.dTake 13 rfl (by kernel_rfl) (by kernel_rfl) (by kernel_rfl) (X.dwG rfl rfl rfl) (fun w' hk' => X.idxS ((hs7b.ext hxw (by intros; (try simp only []); omega)).keep (hk15.trans hk')) Try.underlying24 Try.sizeOf29 rfl rfl ⟨by omega, by omega⟩) ?_
              refine X.dTake 14 rfl (by kernel_rfl) (by kernel_rfl) (by kernel_rfl) (X.dwG rfl rfl rfl) (fun w' hk' => X.fldA Try.underlying29 rfl rfl Try.sizeOf27) ?_
              refine X.dTake 15 rfl (by kernel_rfl) (by kernel_rfl) (by kernel_rfl) (X.dwG rfl rfl rfl) (fun w' hk' => X.loadSf Try.isAgg27 ((hs7b.ext hxw (by intros; (try simp only []); omega)).keep (hk15.trans hk')) hy rfl (fun _ h => by rw [h.1]; rfl)) ?_
              refine X.dTake 16 rfl (by kernel_rfl) (by kernel_rfl) (by kernel_rfl) (X.dwG rfl rfl rfl) (fun w' hk' => X.move (v := .slice _ _ _) rfl) ?_
              refine X.dTake 17 rfl (by kernel_rfl) (by kernel_rfl) (by kernel_rfl) (X.dwG rfl rfl rfl) (fun w' hk' => X.move (v := .int .i64 _) rfl) ?_
              refine X.dTake 18 rfl (by kernel_rfl) (by kernel_rfl) (by kernel_rfl) (X.dwG rfl rfl rfl) (fun w' hk' => X.sub (c := ((i2 - 1 : Nat) : Int)) rfl rfl (by rw [X.w_i64 (by omega)]; omega)) ?_
              refine X.dTake 19 rfl (by kernel_rfl) (by kernel_rfl) (by kernel_rfl) (X.dwG rfl rfl rfl) (fun w' hk' => X.idxS ((hs7b.ext hxw (by intros; (try simp only []); omega)).keep (hk15.trans hk')) Try.underlying24 Try.sizeOf29 rfl rfl ⟨by omega, by omega⟩) ?_
              refine X.dTake 20 rfl (by kernel_rfl) (by kernel_rfl) (by kernel_rfl) (X.dwG rfl rfl rfl) (fun w' hk' => X.fldA Try.underlying29 rfl rfl Try.sizeOf27) ?_
              refine X.dTake 21 rfl (by kernel_rfl) (by kernel_rfl) (by kernel_rfl) (X.dwG rfl rfl rfl) (fun w' hk' => X.loadSf Try.isAgg27 ((hs7b.ext hxw (by intros; (try simp only []); omega)).keep (hk15.trans hk')) hz rfl (fun _ h => by rw [h.1]; rfl)) ?_
              refine X.dTake 22 rfl (by kernel_rfl) (by kernel_rfl) (by kernel_rfl) (X.dwG rfl rfl rfl) (fun w' hk' => X.eqI rfl rfl) ?_
              refine X.dTake 23 rfl (by kernel_rfl) (by kernel_rfl) (by kernel_rfl) (X.dwG rfl rfl rfl) (fun w' hk' => X.pickT (v := .bool _) rfl rfl) ?_
              refine X.dTake 24 rfl (by kernel_rfl) (by kernel_rfl) (by kernel_rfl) (X.dwG rfl rfl rfl) (fun w' hk' => X.move (v := .bool _) rfl) ?_
              refine X.dFork 106 rfl (fun h106 => ?_) (fun h106 => ?_)
              · refine X.dTake 25 rfl (by kernel_rfl) (by kernel_rfl) (by kernel_rfl) (X.dwG rfl rfl rfl) (fun w' hk' => X.move (v := .slice _ _ _) rfl) ?_
                refine X.dTake 26 rfl (by kernel_rfl) (by kernel_rfl) (by kernel_rfl) (X.dwG rfl rfl rfl) (fun w' hk' => X.move (v := .int .i64 _) rfl) ?_
                refine X.dTake 27 rfl (by kernel_rfl) (by kernel_rfl) (by kernel_rfl) (X.dwG rfl rfl rfl) (fun w' hk' => X.idxS ((hs7b.ext hxw (by intros; (try simp only []); omega)).keep (hk15.trans hk')) Try.underlying24 Try.sizeOf29 rfl rfl ⟨by omega, by omega⟩) ?_
                refine X.dTake 28 rfl (by kernel_rfl) (by kernel_rfl) (by kernel_rfl) (X.dwG rfl rfl rfl) (fun w' hk' => X.fldA Try.underlying29 rfl rfl Try.sizeOf3) ?_
                refine X.dTake 29 rfl (by kernel_rfl) (by kernel_rfl) (by kernel_rfl) (X.dwG rfl rfl rfl) (fun w' hk' => X.loadSf Try.isAgg3 ((hs7b.ext hxw (by intros; (try simp only []); omega)).keep (hk15.trans hk')) hy rfl (fun _ h => by rw [h.1]; rfl)) ?_
                refine X.dTake 30 rfl (by kernel_rfl) (by kernel_rfl) (by kernel_rfl) (X.dwG rfl rfl rfl) (fun w' hk' => X.move (v := .slice _ _ _) rfl) ?_
                refine X.dTake 31 rfl (by kernel_rfl) (by kernel_rfl) (by kernel_rfl) (X.dwG rfl rfl rfl) (fun w' hk' => X.move (v := .int .i64 _) rfl) ?_
                refine X.dTake 32 rfl (by kernel_rfl) (by kernel_rfl) (by kernel_rfl) (X.dwG rfl rfl rfl) (fun w' hk' => X.sub (c := ((i2 - 1 : Nat) : Int)) rfl rfl (by rw [X.w_i64 (by omega)]; omega)) ?_
                refine X.dTake 33 rfl (by kernel_rfl) (by kernel_rfl) (by kernel_rfl) (X.dwG rfl rfl rfl) (fun w' hk' => X.idxS ((hs7b.ext hxw (by intros; (try simp only []); omega)).keep (hk15.trans hk')) Try.underlying24 Try.sizeOf29 rfl rfl ⟨by omega, by omega⟩) ?_
                refine X.dTake 34 rfl (by kernel_rfl) (by kernel_rfl) (by kernel_rfl) (X.dwG rfl rfl rfl) (fun w' hk' => X.fldA Try.underlying29 rfl rfl Try.sizeOf3) ?_
                refine X.dTake 35 rfl (by kernel_rfl) (by kernel_rfl) (by kernel_rfl) (X.dwG rfl rfl rfl) (fun w' hk' => X.loadSf Try.isAgg3 ((hs7b.ext hxw (by intros; (try simp only []); omega)).keep (hk15.trans hk')) hz rfl (fun _ h => by rw [h.1]; rfl)) ?_
                refine X.dTake 36 rfl (by kernel_rfl) (by kernel_rfl) (by kernel_rfl) (X.dwG rfl rfl rfl) (fun w' hk' => X.lss rfl rfl) ?_
                refine X.dTake 37 rfl (by kernel_rfl) (by kernel_rfl) (by kernel_rfl) (X.dwG rfl rfl rfl) (fun w' hk' => X.pickT (v := .bool _) rfl rfl) ?_
                refine X.dTake 38 rfl (by kernel_rfl) (by kernel_rfl) (by kernel_rfl) (X.dwN rfl) (fun w' hk' => X.pickF (v := .bool _) rfl rfl) ?_
                refine X.dEnd (by kernel_rfl) ?_
                refine X.condB rfl (fun hc => ?_) (fun hc => ?_)
                · have hlx := List.pairwise_iff_getElem.1 halx (i2 - 1) i2 (List.getElem?_eq_some_iff.1 hz).1 (List.getElem?_eq_some_iff.1 hy).1 (by omega)
                  rw [(List.getElem?_eq_some_iff.1 hz).2, (List.getElem?_eq_some_iff.1 hy).2] at hlx
                  have h6 : y.1 = z.1 := by simpa using h106
                  have h7 : y.2 < z.2 := by simpa using hc
                  exact absurd hlx (by omega)
                · refine X.skip ?_
                  refine X.region ?_
                  refine X.opw X.wN rfl (X.move rfl) ?_
                  refine X.opw X.wN rfl (X.move (v := .slice _ _ _) rfl) ?_
                  refine X.opw X.wN rfl (X.move (v := .int .i64 _) rfl) ?_
                  refine X.opw X.wN rfl (X.idxS ((hs7b.ext hxw (by intros; (try simp only []); omega)).keep hk15) Try.underlying24 Try.sizeOf29 rfl rfl ⟨by omega, by omega⟩) ?_
                  refine X.opw X.wN rfl (X.fldA Try.underlying29 rfl rfl Try.sizeOf3) ?_
                  refine X.opw X.wN rfl (X.loadSf Try.isAgg3 ((hs7b.ext hxw (by intros; (try simp only []); omega)).keep hk15) hy rfl (fun _ h => by rw [h.1]; rfl)) ?_
                  refine X.opE X.wN rfl (X.updateV (enc := (fun n : Int => Value.int .i64 n)) (venc := Value.bool) Try.underlying38 (X.keyInt Try.underlying3) (hG.keep hk15) rfl rfl rfl) ?_
                  rintro _ w16 ⟨hG16, hx16, hz16⟩
                  refine X.opsEnd ?_
                  refine X.inBlock ?_
                  refine X.region ?_
                  refine X.opw X.wN rfl (X.move (v := .int .i64 _) rfl) ?_
                  refine X.opw X.wN rfl (X.add rfl rfl (X.w_i64 (by omega))) ?_
                  refine X.opw X.wN rfl (X.assign (v := .int .i64 _) rfl) ?_
                  refine X.opsEnd ?_
                  have hsn2 : ∀ z, asc z (put y.2 true ms) = if z ∈ ((mgC us0.length (LL (lsM qs us0.length))).take (i2 + 1)).map (·.2) then some true else none := by
                    intro z
                    rw [asc_put, hsn, take_at hy, List.map_append, List.map_cons, List.map_nil]
                    by_cases e : z = y.2
                    · simp [e]
                    · simp [e]
                  refine hback3 (i2 + 1, put y.2 true ms) _ _ ⟨rfl, rfl, rfl, rfl, trivial⟩ ⟨by dsimp only; omega, hsn2, hG16, (Ext.andThen (Ext.andThen hxw hk15 (by intro k h1 h2; first | exact h2 | exact (h2 : False).elim | (exfalso; (try simp only [] at *); omega))) hx16 (by intro k h1 h2; first | exact h2 | exact (h2 : False).elim | (exfalso; (try simp only [] at *); omega))), by omega, ((hkn.trans hk15).step hx16 (by intros; (try simp only [] at *); omega))⟩ (by dsimp only; omega)
              · refine X.dTakeS 25 rfl (by kernel_rfl) (by kernel_rfl) (by kernel_rfl) rfl rfl rfl rfl ?_
                refine X.dTakeS 26 rfl (by kernel_rfl) (by kernel_rfl) (by kernel_rfl) rfl rfl rfl rfl ?_
                refine X.dTakeS 27 rfl (by kernel_rfl) (by kernel_rfl) (by kernel_rfl) rfl rfl rfl rfl ?_
                refine X.dTakeS 28 rfl (by kernel_rfl) (by kernel_rfl) (by kernel_rfl) rfl rfl rfl rfl ?_
                refine X.dTakeS 29 rfl (by kernel_rfl) (by kernel_rfl) (by kernel_rfl) rfl rfl rfl rfl ?_
                refine X.dTakeS 30 rfl (by kernel_rfl) (by kernel_rfl) (by kernel_rfl) rfl rfl rfl rfl ?_
                refine X.dSkip (i := 31) (by kernel_rfl) rfl rfl rfl rfl rfl ?_
                refine X.dSkip (i := 32) (by kernel_rfl) rfl rfl rfl rfl rfl ?_
                refine X.dSkip (i := 33) (by kernel_rfl) rfl rfl rfl rfl rfl ?_
                refine X.dSkip (i := 34) (by kernel_rfl) rfl rfl rfl rfl rfl ?_
                refine X.dSkip (i := 35) (by kernel_rfl) rfl rfl rfl rfl rfl ?_
                refine X.dSkip (i := 36) (by kernel_rfl) rfl rfl rfl rfl rfl ?_
                refine X.dTake 37 rfl (by kernel_rfl) (by kernel_rfl) (by kernel_rfl) (X.dwG rfl rfl rfl) (fun w' hk' => X.pickF (v := .bool false) rfl rfl) ?_
                refine X.dTake 38 rfl (by kernel_rfl) (by kernel_rfl) (by kernel_rfl) (X.dwN rfl) (fun w' hk' => X.pickF (v := .bool false) rfl rfl) ?_
                refine X.dEnd (by kernel_rfl) ?_
                refine X.condF rfl ?_
                refine X.skip ?_
                refine X.region ?_
                refine X.opw X.wN rfl (X.move rfl) ?_
                refine X.opw X.wN rfl (X.move (v := .slice _ _ _) rfl) ?_
                refine X.opw X.wN rfl (X.move (v := .int .i64 _) rfl) ?_
                refine X.opw X.wN rfl (X.idxS ((hs7b.ext hxw (by intros; (try simp only []); omega)).keep hk15) Try.underlying24 Try.sizeOf29 rfl rfl ⟨by omega, by omega⟩) ?_
                refine X.opw X.wN rfl (X.fldA Try.underlying29 rfl rfl Try.sizeOf3) ?_
                refine X.opw X.wN rfl (X.loadSf Try.isAgg3 ((hs7b.ext hxw (by intros; (try simp only []); omega)).keep hk15) hy rfl (fun _ h => by rw [h.1]; rfl)) ?_
                refine X.opE X.wN rfl (X.updateV (enc := (fun n : Int => Value.int .i64 n)) (venc := Value.bool) Try.underlying38 (X.keyInt Try.underlying3) (hG.keep hk15) rfl rfl rfl) ?_
                rintro _ w17 ⟨hG17, hx17, hz17⟩
                refine X.opsEnd ?_
                refine X.inBlock ?_
                refine X.region ?_
                refine X.opw X.wN rfl (X.move (v := .int .i64 _) rfl) ?_
                refine X.opw X.wN rfl (X.add rfl rfl (X.w_i64 (by omega))) ?_
                refine X.opw X.wN rfl (X.assign (v := .int .i64 _) rfl) ?_
                refine X.opsEnd ?_
                have hsn2 : ∀ z, asc z (put y.2 true ms) = if z ∈ ((mgC us0.length (LL (lsM qs us0.length))).take (i2 + 1)).map (·.2) then some true else none := by
                  intro z
                  rw [asc_put, hsn, take_at hy, List.map_append, List.map_cons, List.map_nil]
                  by_cases e : z = y.2
                  · simp [e]
                  · simp [e]
                refine hback3 (i2 + 1, put y.2 true ms) _ _ ⟨rfl, rfl, rfl, rfl, trivial⟩ ⟨by dsimp only; omega, hsn2, hG17, (Ext.andThen (Ext.andThen hxw hk15 (by intro k h1 h2; first | exact h2 | exact (h2 : False).elim | (exfalso; (try simp only [] at *); omega))) hx17 (by intro k h1 h2; first | exact h2 | exact (h2 : False).elim | (exfalso; (try simp only [] at *); omega))), by omega, ((hkn.trans hk15).step hx17 (by intros; (try simp only [] at *); omega))⟩ (by dsimp only; omega)
            · refine X.dTakeS 11 rfl (by kernel_rfl) (by kernel_rfl) (by kernel_rfl) rfl rfl rfl rfl ?_
              refine X.dTakeS 12 rfl (by kernel_rfl) (by kernel_rfl) (by kernel_rfl) rfl rfl rfl rfl ?_
              refine X.dTakeS 13 rfl (by kernel_rfl) (by kernel_rfl) (by kernel_rfl) rfl rfl rfl rfl ?_
              refine X.dTakeS 14 rfl (by kernel_rfl) (by kernel_rfl) (by kernel_rfl) rfl rfl rfl rfl ?_
              refine X.dTakeS 15 rfl (by kernel_rfl) (by kernel_rfl) (by kernel_rfl) rfl rfl rfl rfl ?_
              refine X.dTakeS 16 rfl (by kernel_rfl) (by kernel_rfl) (by kernel_rfl) rfl rfl rfl rfl ?_
              refine X.dSkip (i := 17) (by kernel_rfl) rfl rfl rfl rfl rfl ?_
              refine X.dSkip (i := 18) (by kernel_rfl) rfl rfl rfl rfl rfl ?_
              refine X.dSkip (i := 19) (by kernel_rfl) rfl rfl rfl rfl rfl ?_
              refine X.dSkip (i := 20) (by kernel_rfl) rfl rfl rfl rfl rfl ?_
              refine X.dSkip (i := 21) (by kernel_rfl) rfl rfl rfl rfl rfl ?_
              refine X.dSkip (i := 22) (by kernel_rfl) rfl rfl rfl rfl rfl ?_
              refine X.dTake 23 rfl (by kernel_rfl) (by kernel_rfl) (by kernel_rfl) (X.dwG rfl rfl rfl) (fun w' hk' => X.pickF (v := .bool false) rfl rfl) ?_
              refine X.dTake 24 rfl (by kernel_rfl) (by kernel_rfl) (by kernel_rfl) (X.dwG rfl rfl rfl) (fun w' hk' => X.move (v := .bool false) rfl) ?_
              refine X.dTakeS 25 rfl (by kernel_rfl) (by kernel_rfl) (by kernel_rfl) rfl rfl rfl rfl ?_
              refine X.dTakeS 26 rfl (by kernel_rfl) (by kernel_rfl) (by kernel_rfl) rfl rfl rfl rfl ?_
              refine X.dTakeS 27 rfl (by kernel_rfl) (by kernel_rfl) (by kernel_rfl) rfl rfl rfl rfl ?_
              refine X.dTakeS 28 rfl (by kernel_rfl) (by kernel_rfl) (by kernel_rfl) rfl rfl rfl rfl ?_
              refine X.dTakeS 29 rfl (by kernel_rfl) (by kernel_rfl) (by kernel_rfl) rfl rfl rfl rfl ?_
              refine X.dTakeS 30 rfl (by kernel_rfl) (by kernel_rfl) (by kernel_rfl) rfl rfl rfl rfl ?_
              refine X.dSkip (i := 31) (by kernel_rfl) rfl rfl rfl rfl rfl ?_
              refine X.dSkip (i := 32) (by kernel_rfl) rfl rfl rfl rfl rfl ?_
              refine X.dSkip (i := 33) (by kernel_rfl) rfl rfl rfl rfl rfl ?_
              refine X.dSkip (i := 34) (by kernel_rfl) rfl rfl rfl rfl rfl ?_
              refine X.dSkip (i := 35) (by kernel_rfl) rfl rfl rfl rfl rfl ?_
              refine X.dSkip (i := 36) (by kernel_rfl) rfl rfl rfl rfl rfl ?_
              refine X.dTake 37 rfl (by kernel_rfl) (by kernel_rfl) (by kernel_rfl) (X.dwG rfl rfl rfl) (fun w' hk' => X.pickF (v := .bool false) rfl rfl) ?_
              refine X.dTake 38 rfl (by kernel_rfl) (by kernel_rfl) (by kernel_rfl) (X.dwN rfl) (fun w' hk' => X.pickF (v := .bool false) rfl rfl) ?_
              refine X.dEnd (by kernel_rfl) ?_
              refine X.condF rfl ?_
              refine X.skip ?_
              refine X.region ?_
              refine X.opw X.wN rfl (X.move rfl) ?_
              refine X.opw X.wN rfl (X.move (v := .slice _ _ _) rfl) ?_
              refine X.opw X.wN rfl (X.move (v := .int .i64 _) rfl) ?_
              refine X.opw X.wN rfl (X.idxS ((hs7b.ext hxw (by intros; (try simp only []); omega)).keep hk15) Try.underlying24 Try.sizeOf29 rfl rfl ⟨by omega, by omega⟩) ?_
              refine X.opw X.wN rfl (X.fldA Try.underlying29 rfl rfl Try.sizeOf3) ?_
              refine X.opw X.wN rfl (X.loadSf Try.isAgg3 ((hs7b.ext hxw (by intros; (try simp only []); omega)).keep hk15) hy rfl (fun _ h => by rw [h.1]; rfl)) ?_
              refine X.opE X.wN rfl (X.updateV (enc := (fun n : Int => Value.int .i64 n)) (venc := Value.bool) Try.underlying38 (X.keyInt Try.underlying3) (hG.keep hk15) rfl rfl rfl) ?_
              rintro _ w18 ⟨hG18, hx18, hz18⟩
              refine X.opsEnd ?_
              refine X.inBlock ?_
              refine X.region ?_
              refine X.opw X.wN rfl (X.move (v := .int .i64 _) rfl) ?_
              refine X.opw X.wN rfl (X.add rfl rfl (X.w_i64 (by omega))) ?_
              refine X.opw X.wN rfl (X.assign (v := .int .i64 _) rfl) ?_
              refine X.opsEnd ?_
              have hsn2 : ∀ z, asc z (put y.2 true ms) = if z ∈ ((mgC us0.length (LL (lsM qs us0.length))).take (i2 + 1)).map (·.2) then some true else none := by
                intro z
                rw [asc_put, hsn, take_at hy, List.map_append, List.map_cons, List.map_nil]
                by_cases e : z = y.2
                · simp [e]
                · simp [e]
              refine hback3 (i2 + 1, put y.2 true ms) _ _ ⟨rfl, rfl, rfl, rfl, trivial⟩ ⟨by dsimp only; omega, hsn2, hG18, (Ext.andThen (Ext.andThen hxw hk15 (by intro k h1 h2; first | exact h2 | exact (h2 : False).elim | (exfalso; (try simp only [] at *); omega))) hx18 (by intro k h1 h2; first | exact h2 | exact (h2 : False).elim | (exfalso; (try simp only [] at *); omega))), by omega, ((hkn.trans hk15).step hx18 (by intros; (try simp only [] at *); omega))⟩ (by dsimp only; omega)
        · refine X.opsEnd ?_
          refine X.condF rfl ?_
          refine X.exit rfl ?_
          refine X.seq ?_
          refine X.seq ?_
          refine X.region ?_
          refine X.opw X.wN rfl (X.assign rfl) ?_
          refine X.opsEnd ?_
          refine X.block ?_
          -- LOOP live: 3=all, 9=seen, 11=i*
          have hs3d := (hs3b.ext hxw (by intros; (try simp only []); omega))
          have hGd := hG
          refine X.loopL (σ := Nat) (fun s => [(3, .slice A3 (catL (LM qs) us0.length).length c3), (9, .map (some w13.heap.size)), (11, .int .i64 (s : Int))]) (fun s w' => s ≤ (catL (LM qs) us0.length).length ∧ Keep wn w' ∧ Keep w w') (fun s => (catL (LM qs) us0.length).length - s) 0 ⟨rfl, rfl, rfl, trivial⟩ ⟨Nat.zero_le _, Keep.refl _, hkn⟩ ?_
          rintro i4 b4 wo ⟨hi4, hwo, hko⟩ hback4
          have hko' := hko.size
          refine X.seq ?_
          refine X.seq ?_
          refine X.region ?_
          refine X.opw X.wN rfl (X.move (v := .int .i64 _) rfl) ?_
          refine X.opw X.wN rfl (X.move (v := .slice _ _ _) rfl) ?_
          refine X.opw X.wN rfl (X.lenSl Try.underlying24 rfl) ?_
          refine X.opP X.wN rfl rfl (X.lss rfl rfl) (fun h130 => ?_) (fun h130 => ?_)
          · obtain ⟨y4, hy4⟩ := get2 (l := catL (LM qs) us0.length) i4 rfl (by omega)
            have hin2 : i2 = (mgC us0.length (LL (lsM qs us0.length))).length := by omega
            have hmem4 : y4.2 ∈ ((mgC us0.length (LL (lsM qs us0.length))).take i2).map (·.2) := by rw [hin2, List.take_length]; exact hamem y4 (List.mem_of_getElem? hy4)
            refine X.opsEnd ?_
            refine X.condT rfl ?_
            refine X.skip ?_
            refine X.seq ?_
            refine X.block ?_
            refine X.seq ?_
            refine X.region ?_
            refine X.opw X.wN rfl (X.move rfl) ?_
            refine X.opw X.wN rfl (X.move (v := .slice _ _ _) rfl) ?_
            refine X.opw X.wN rfl (X.move (v := .int .i64 _) rfl) ?_
            refine X.opw X.wN rfl (X.idxS (hs3d.keep hwo) Try.underlying24 Try.sizeOf29 rfl rfl ⟨by omega, by omega⟩) ?_
            refine X.opw X.wN rfl (X.fldA Try.underlying29 rfl rfl Try.sizeOf3) ?_
            refine X.opw X.wN rfl (X.loadSf Try.isAgg3 (hs3d.keep hwo) hy4 rfl (fun _ h => by rw [h.1]; rfl)) ?_
            refine X.opw X.wN rfl (X.lookupV (enc := (fun n : Int => Value.int .i64 n)) (venc := Value.bool) (z := false) Try.underlying38 (X.keyInt Try.underlying3) Try.zeroValue4 (hGd.keep hwo) rfl rfl) ?_
            refine X.opw X.wN rfl (X.not_ rfl) ?_
            refine X.opsEnd ?_
            refine X.condB rfl (fun hc => ?_) (fun hc => ?_)
            · rw [hsn, if_pos hmem4] at hc; simp at hc
            · refine X.skip ?_
              refine X.inBlock ?_
              refine X.region ?_
              refine X.opw X.wN rfl (X.move (v := .int .i64 _) rfl) ?_
              refine X.opw X.wN rfl (X.add rfl rfl (X.w_i64 (by omega))) ?_
              refine X.opw X.wN rfl (X.assign (v := .int .i64 _) rfl) ?_
              refine X.opsEnd ?_
              refine hback4 (i4 + 1) _ _ ⟨rfl, rfl, rfl, trivial⟩ ⟨by omega, hwo, hko⟩ (by omega)
          · refine X.opsEnd ?_
            refine X.condF rfl ?_
            refine X.exit rfl ?_
            refine X.seq ?_
            refine X.region ?_
            refine X.opE X.wN rfl (X.callE (alive_c _) Try.call14 rfl rfl) ?_
            rintro _ w19 ⟨rfl, hk19⟩
            have hk19' := hk19.size
            refine X.opw X.wN rfl (X.assign (v := .bool _) rfl) ?_
            refine X.opsEnd ?_
            refine X.ret1 (v := (.bool _)) Try.func3 Try.results3 rfl ?_
            exact ⟨rfl, (hko.trans hk19)⟩
end Go.Proofs.Ytgfficbkajcdpaa
