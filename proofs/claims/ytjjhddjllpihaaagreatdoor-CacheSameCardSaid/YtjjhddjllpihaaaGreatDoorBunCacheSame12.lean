/- Texts that the proof of CacheSame stands on, part 12. -/
import Derived.MapKept
import Derived.Laws.IdiomRangeMap
import Derived.Test.YtjjhddjllpihaaaGreatDoorBunCacheSame11
set_option maxHeartbeats 4000000
set_option maxRecDepth 100000
set_option linter.unusedSectionVars false
set_option linter.unusedSimpArgs false
set_option linter.unusedVariables false
namespace Go.Proofs.YtjjhddjllpihaaaGreatDoor.X
open Go Go.MapKept
section
variable {κ : Type} [DecidableEq κ] {ν : Type}
def asc (x : κ) : List (κ × ν) → Option ν
  | [] => none
  | (a, u) :: m => if x = a then some u else asc x m
def put (x : κ) (v : ν) : List (κ × ν) → List (κ × ν)
  | [] => [(x, v)]
  | (a, u) :: m => if x = a then (a, v) :: m else (a, u) :: put x v m
def del (x : κ) : List (κ × ν) → List (κ × ν)
  | [] => []
  | (a, u) :: m => if x = a then m else (a, u) :: del x m
def fndM (x : κ) : List (κ × ν) → Nat → Option (Nat × ν)
  | [], _ => none
  | (a, u) :: m, i => if x = a then some (i, u) else fndM x m (i + 1)
theorem fnd_spec (x : κ) : ∀ (m : List (κ × ν)) (i : Nat), (fndM x m i = none ∧ (∀ v, put x v m = m ++ [(x, v)]) ∧ del x m = m ∧ asc x m = none ∧ ∀ p, p ∈ m → p.1 ≠ x) ∨
    ∃ j u, fndM x m i = some (i + j, u) ∧ m[j]? = some (x, u) ∧ (∀ v, put x v m = m.set j (x, v)) ∧ del x m = m.eraseIdx j ∧ asc x m = some u
  | [], i => .inl ⟨rfl, fun _ => rfl, rfl, rfl, fun p h => by simp at h⟩
  | (a, u) :: m, i => by
    by_cases h : x = a
    · subst h
      exact .inr ⟨0, u, by simp [fndM], rfl, fun v => by simp [put], by simp [del], by simp [asc]⟩
    · rcases fnd_spec x m (i + 1) with ⟨h1, h2, h3, h4, h5⟩ | ⟨j, u', h1, h2, h3, h4, h5⟩
      · exact .inl ⟨by simp [fndM, h, h1], fun v => by simp [put, h, h2], by simp [del, h, h3], by simp [asc, h, h4], fun p hp => by
          rcases List.mem_cons.1 hp with rfl | hp
          · exact fun e => h e.symm
          · exact h5 p hp⟩
      · exact .inr ⟨j + 1, u', by simp [fndM, h, h1]; omega, by simpa using h2, fun v => by simp [put, h, h3], by simp [del, h, h4], by simp [asc, h, h5]⟩
theorem asc_none {x : κ} {m : List (κ × ν)} : asc x m = none ↔ ∀ p, p ∈ m → p.1 ≠ x := by
  induction m with
  | nil => simp [asc]
  | cons q m ih =>
    obtain ⟨a, u⟩ := q
    rw [asc]
    by_cases h : x = a
    · subst h; simp
    · rw [if_neg h, ih]
      constructor
      · intro g p hp
        rcases List.mem_cons.1 hp with rfl | hp
        · exact fun e => h e.symm
        · exact g p hp
      · exact fun g p hp => g p (List.mem_cons_of_mem _ hp)
theorem asc_some {x : κ} {u : ν} {m : List (κ × ν)} (h : asc x m = some u) : (x, u) ∈ m := by
  induction m with
  | nil => simp [asc] at h
  | cons q m ih =>
    obtain ⟨a, w⟩ := q
    rw [asc] at h
    by_cases e : x = a
    · subst e; simp at h; subst h; exact List.mem_cons_self
    · rw [if_neg e] at h; exact List.mem_cons_of_mem _ (ih h)
theorem asc_mem {x : κ} {u : ν} {m : List (κ × ν)} (hn : (m.map (·.1)).Nodup) (h : (x, u) ∈ m) : asc x m = some u := by
  induction m with
  | nil => simp at h
  | cons q m ih =>
    obtain ⟨a, w⟩ := q
    obtain ⟨h1, h2⟩ := List.nodup_cons.1 (by simpa using hn : (a :: m.map (·.1)).Nodup)
    rw [asc]
    rcases List.mem_cons.1 h with e | h
    · cases e; simp
    · rw [if_neg (fun e => h1 (by rw [← e]; exact List.mem_map.2 ⟨_, h, rfl⟩)), ih h2 h]
theorem asc_put (x y : κ) (v : ν) : ∀ m : List (κ × ν), asc y (put x v m) = if y = x then some v else asc y m
  | [] => by simp [put, asc]
  | (a, u) :: m => by
    by_cases h : x = a
    · subst h
      rw [put, if_pos rfl, asc, asc]
      by_cases e : y = x <;> simp [e]
    · rw [put, if_neg h, asc, asc, asc_put x y v m]
      by_cases e : y = a
      · subst e; rw [if_pos rfl, if_pos rfl, if_neg (fun e => h e.symm)]
      · simp [e]
theorem asc_del {x y : κ} : ∀ {m : List (κ × ν)}, (m.map (·.1)).Nodup → asc y (del x m) = if y = x then none else asc y m
  | [], _ => by simp [del, asc]
  | (a, u) :: m, hn => by
    obtain ⟨h1, h2⟩ := List.nodup_cons.1 (by simpa using hn : (a :: m.map (·.1)).Nodup)
    by_cases h : x = a
    · subst h
      rw [del, if_pos rfl, asc]
      by_cases e : y = x
      · subst e; rw [if_pos rfl]; exact asc_none.2 fun p hp e => h1 (by rw [← e]; exact List.mem_map.2 ⟨p, hp, rfl⟩)
      · simp [e]
    · rw [del, if_neg h, asc, asc, asc_del h2]
      by_cases e : y = a
      · subst e; rw [if_pos rfl, if_pos rfl, if_neg (fun e => h e.symm)]
      · simp [e]
theorem put_keys (x : κ) (v : ν) (m : List (κ × ν)) : (put x v m).map (·.1) = if (m.map (·.1)).contains x then m.map (·.1) else m.map (·.1) ++ [x] := by
  induction m with
  | nil => simp [put]
  | cons q m ih =>
    obtain ⟨a, u⟩ := q
    by_cases h : x = a
    · subst h; simp [put]
    · rw [put, if_neg h, List.map_cons, ih, List.map_cons]
      by_cases hc : (m.map (·.1)).contains x = true
      · rw [if_pos hc, if_pos (by simp at hc ⊢; exact .inr hc)]
      · rw [if_neg hc, if_neg (by simp at hc ⊢; exact ⟨h, hc⟩)]; rfl
theorem put_nodup {x : κ} {v : ν} {m : List (κ × ν)} (hn : (m.map (·.1)).Nodup) : ((put x v m).map (·.1)).Nodup := by
  rw [put_keys]; split
  · exact hn
  · rename_i h
    rw [List.nodup_append]
    refine ⟨hn, by simp, fun a ha b hb => ?_⟩
    simp only [List.mem_singleton] at hb
    subst hb
    exact fun e => h (by rw [← e]; simpa using ha)
theorem del_sub {x : κ} : ∀ (m : List (κ × ν)), (del x m).Sublist m
  | [] => List.Sublist.refl _
  | (a, u) :: m => by
    rw [del]; split
    · exact List.sublist_cons_self _ _
    · exact (del_sub m).cons_cons _
theorem del_nodup {x : κ} {m : List (κ × ν)} (hn : (m.map (·.1)).Nodup) : ((del x m).map (·.1)).Nodup := hn.sublist ((del_sub m).map _)
theorem del_eq {x : κ} : ∀ {m : List (κ × ν)}, (m.map (·.1)).Nodup → del x m = m.filter fun p => decide (p.1 ≠ x)
  | [], _ => rfl
  | (a, u) :: m, hn => by
    obtain ⟨h1, h2⟩ := List.nodup_cons.1 (by simpa using hn : (a :: m.map (·.1)).Nodup)
    rw [del, List.filter_cons]
    by_cases h : x = a
    · subst h
      rw [if_pos rfl, if_neg (by simp)]
      symm
      rw [List.filter_eq_self]
      intro p hp
      simp
      exact fun e => h1 (by rw [← e]; exact List.mem_map.2 ⟨p, hp, rfl⟩)
    · rw [if_neg h, if_pos (by simp; exact fun e => h e.symm), del_eq h2]
end
theorem map_erase {α β : Type} (f : α → β) : ∀ (l : List α) (j : Nat), (l.eraseIdx j).map f = (l.map f).eraseIdx j
  | [], _ => rfl
  | _ :: _, 0 => rfl
  | x :: l, j + 1 => by simp [map_erase f l j]
section
variable {P : Program} {k : TypeId} {κ : Type} [DecidableEq κ] {enc : κ → Value}
structure KeyT (P : Program) (k : TypeId) (enc : κ → Value) : Prop where
  check : ∀ (em : Bool) (x : κ) (w : World), (Instr.checkKey em 10000 k (enc x)).run P w = .ok () w
  find : ∀ (x : κ) (m : List (κ × Value)) (es : List MapEntry) (w : World), es.map (fun e => (e.key, e.val)) = m.map (fun p => (enc p.1, p.2)) → (Instr.findKey k (enc x) es).run P w = .ok (fndM x m 0) w
  stays : ∀ (x : κ) (w : World), (Instr.keyThatStays (enc x) (enc x)).run P w = .ok (enc x) w
theorem stays_of {v : Value} (h : Instr.sameBits 10000 v v = true) (w : World) : (Instr.keyThatStays v v).run P w = .ok v w := by
  simp [Instr.keyThatStays, h]
theorem find_now {d : TypeDesc} (hd : P.underlying k = some d) (hs : ∀ x y : κ, Instr.sameNow d (enc x) (enc y) = some (decide (x = y))) (x : κ) (w : World) : ∀ (m : List (κ × Value)) (es : List MapEntry), es.map (fun e => (e.key, e.val)) = m.map (fun p => (enc p.1, p.2)) → (Instr.findKey k (enc x) es).run P w = .ok (fndM x m 0) w := by
  have key : ∀ (m : List (κ × Value)) (es : List MapEntry) (i : Nat), es.map (fun e => (e.key, e.val)) = m.map (fun p => (enc p.1, p.2)) → Instr.findNow d (enc x) es i = some (fndM x m i) := by
    intro m
    induction m with
    | nil => intro es i h; have : es = [] := by simpa using h
             subst this; rfl
    | cons q m ih =>
      intro es i h
      obtain ⟨a, u⟩ := q
      cases es with
      | nil => simp at h
      | cons e es =>
        simp only [List.map_cons, List.cons.injEq, Prod.mk.injEq] at h
        obtain ⟨⟨h1, h2⟩, h3⟩ := h
        rw [Instr.findNow, h1, hs, fndM]
        by_cases hx : x = a
        · simp [hx, h2]
        · simp [hx, ih es (i + 1) h3]
  intro m es h
  exact run_findKey hd (key m es 0 h)
theorem keyPlain {d : TypeDesc} (hd : P.underlying k = some d) (hk : ∀ x, IsKey d (enc x)) (hi : ∀ x y, enc x = enc y → x = y) : KeyT P k enc where
  check em x w := run_checkKey hd (hk x) em 9999
  find x m es w h := find_now hd (fun a b => by
    obtain ⟨r, h1, h2⟩ := sameNow_of_keys (hk a) (hk b)
    rw [h1]
    congr 1
    by_cases e : a = b
    · subst e; rw [h2.2 rfl]; simp
    · have : r = false := by
        cases r with
        | false => rfl
        | true => exact absurd (hi _ _ (h2.1 rfl)) e
      rw [this]; simp [e]) x w m es h
  stays x w := run_keyThatStays (hk x)
theorem keyInt {ik : IntKind} (hd : P.underlying k = some (.int ik)) : KeyT P k (fun n : Int => Value.int ik n) := keyPlain hd (fun x => by simp [IsKey]) (fun x y h => by simpa using h)
theorem keyStr (hd : P.underlying k = some .string) : KeyT P k (fun s : ByteArray => Value.string s) := keyPlain hd (fun x => by simp [IsKey]) (fun x y h => by simpa using h)
theorem keyStruct {fs : Array Field} (hd : P.underlying k = some (.struct fs)) (hc : ∀ (em : Bool) (x : κ) (w : World), (Instr.checkKey em 10000 k (enc x)).run P w = .ok () w) (he : ∀ (x y : κ) (w : World), (Op.equal k (enc x) (enc y)).run P w = .ok (decide (x = y)) w) (hb : ∀ x : κ, Instr.sameBits 10000 (enc x) (enc x) = true) : KeyT P k enc where
  check := hc
  stays x w := stays_of (hb x) w
  find x m es w h := by
    have key : ∀ (m : List (κ × Value)) (es : List MapEntry) (i : Nat), es.map (fun e => (e.key, e.val)) = m.map (fun p => (enc p.1, p.2)) → (Instr.findAsking k (enc x) es i).run P w = .ok (fndM x m i) w := by
      intro m
      induction m with
      | nil => intro es i h; have : es = [] := by simpa using h
               subst this; rfl
      | cons q m ih =>
        intro es i h
        obtain ⟨a, u⟩ := q
        cases es with
        | nil => simp at h
        | cons e es =>
          simp only [List.map_cons, List.cons.injEq, Prod.mk.injEq] at h
          obtain ⟨⟨h1, h2⟩, h3⟩ := h
          rw [Instr.findAsking, h1, fndM]
          by_cases hx : x = a
          · simp [he, hx, h2]
          · simp [he, hx, ih es (i + 1) h3]
    cases es with
    | nil =>
      have : m = [] := by simpa using h.symm
      subst this
      simp [Instr.findKey, run_underlying hd, Instr.findNow]; rfl
    | cons e es =>
      have := key m (e :: es) 0 h
      simp [Instr.findKey, run_underlying hd, Instr.findNow, Instr.sameNow, this]
end
structure Mp {κ : Type} (enc : κ → Value) (w : World) (b : Nat) (m : List (κ × Value)) : Prop where
  ex : ∃ (es : Array MapEntry) (ck : Nat), w.heap[b]? = some (.map es ck) ∧ es.toList.map (fun e => (e.key, e.val)) = m.map (fun p => (enc p.1, p.2)) ∧ (∀ e ∈ es.toList, e.born < ck) ∧ (es.toList.map (·.born)).Nodup
  nodup : (m.map (·.1)).Nodup
section
variable {κ : Type} {enc : κ → Value} {w w' : World} {b : Nat} {m : List (κ × Value)}
theorem Mp.lt (h : Mp enc w b m) : b < w.heap.size := let ⟨_, _, h, _⟩ := h.ex; lt_of_block h
theorem Mp.ext (h : Mp enc w b m) {T : Nat → Prop} (x : Ext T w w') (hT : ¬ T b) : Mp enc w' b m :=
  ⟨let ⟨es, ck, h1, h2⟩ := h.ex; ⟨es, ck, (x.keep b h.lt hT).trans h1, h2⟩, h.nodup⟩
theorem Mp.keep (h : Mp enc w b m) (x : Keep w w') : Mp enc w' b m := h.ext x id
end
section
variable {P : Program} {ρ : Operand → Value} {w : World} {dst : Option Tmp} {ty : TypeId} {pos : String} {aft : Array Edge} {g : Option (Nat × Bool)}
variable {κ : Type} [DecidableEq κ] {enc : κ → Value} {b : Nat} {m : List (κ × Value)} {T K E : TypeId}
theorem makeMapE {T : TypeId} {κ : Type} (enc : κ → Value) : DoesE P ⟨dst, .makeMap T none, ty, pos, aft, g⟩ ρ w fun v w' => v = .map (some w.heap.size) ∧ Mp enc w' w.heap.size [] ∧ Keep w w' ∧ w'.heap.size = w.heap.size + 1 :=
  (does_run (w' := w.alloc (.map #[] 0)) (v := .map (some w.heap.size)) rfl (by simp only [execOp, Option.map_none]; rfl)).e ⟨rfl, ⟨⟨#[], 0, heap_alloc_new w _, rfl, fun e h => by simp at h, by simp⟩, by simp⟩, Keep.alloc w _, by simp⟩
theorem run_lookup {P : Program} {w : World} {z : Value} (hT : P.underlying T = some (.map K E)) (hK : KeyT P K enc) (hz : ∀ w, (zeroValue E).run P w = .ok z w) (hM : Mp enc w b m) (x : κ) (ok : Bool) :
    (Instr.lookup T (.map (some b)) (enc x) ok).run P w = .ok (if ok then .tuple #[(asc x m).getD z, .bool (asc x m).isSome] else (asc x m).getD z) w := by
  obtain ⟨es, ck, h1, h2, _, _⟩ := hM.ex
  have hf := hK.find x m es.toList w h2
  have hc := hK.check es.isEmpty x w
  rcases fnd_spec x m 0 with ⟨q1, _, _, q4, _⟩ | ⟨j, u, q1, _, _, _, q5⟩
  · rw [q1] at hf
    cases ok <;> simp [Instr.lookup, run_underlying hT, MapKept.run_getObj_map h1, hc, hf, hz, q4]
  · rw [q1] at hf
    cases ok <;> simp [Instr.lookup, run_underlying hT, MapKept.run_getObj_map h1, hc, hf, q5]
theorem lookupD {x y : Operand} {z : Value} {a : κ} (hT : P.underlying T = some (.map K E)) (hK : KeyT P K enc) (hz : ∀ w, (zeroValue E).run P w = .ok z w) (hM : Mp enc w b m) (hx : ρ x = .map (some b)) (hy : ρ y = enc a) : Does P ⟨dst, .lookup T x y false, ty, pos, aft, g⟩ ρ w ((asc a m).getD z) w :=
  does_run rfl (by simp only [execOp, hx, hy]; simp [run_lookup hT hK hz hM a false])
theorem lookupOk {x y : Operand} {z : Value} {a : κ} (hT : P.underlying T = some (.map K E)) (hK : KeyT P K enc) (hz : ∀ w, (zeroValue E).run P w = .ok z w) (hM : Mp enc w b m) (hx : ρ x = .map (some b)) (hy : ρ y = enc a) : Does P ⟨dst, .lookup T x y true, ty, pos, aft, g⟩ ρ w (.tuple #[(asc a m).getD z, .bool (asc a m).isSome]) w :=
  does_run rfl (by simp only [execOp, hx, hy]; simp [run_lookup hT hK hz hM a true])
theorem Ext.setMap (w : World) (b : Nat) (o : Obj) : Ext (fun k => k = b) w { w with heap := w.heap.setIfInBounds b o } := ⟨rfl, rfl, rfl, by simp, fun k _ hk => by simp only [Array.getElem?_setIfInBounds]; rw [if_neg (fun h => hk h.symm)]⟩
theorem setMap_at {w : World} {b : Nat} (h : b < w.heap.size) (o : Obj) : (w.heap.setIfInBounds b o)[b]? = some o := by simp [h]
theorem run_update {P : Program} {w : World} (hT : P.underlying T = some (.map K E)) (hK : KeyT P K enc) (hM : Mp enc w b m) (x : κ) (v : Value) : ∃ w', (Instr.mapUpdate T (.map (some b)) (enc x) v).run P w = .ok () w' ∧ Mp enc w' b (put x v m) ∧ Ext (fun k => k = b) w w' ∧ w'.heap.size = w.heap.size := by
  obtain ⟨es, ck, h1, h2, h3, h4⟩ := hM.ex
  have hf := hK.find x m es.toList w h2
  have hc := hK.check false x w
  have hlt := hM.lt
  rcases fnd_spec x m 0 with ⟨q1, q2, _, _, q5⟩ | ⟨j, u, q1, q2, q3, _, _⟩
  · rw [q1] at hf
    refine ⟨{ w with heap := w.heap.setIfInBounds b (.map (es.push { key := enc x, val := v, born := ck }) (ck + 1)) }, ?_, ⟨⟨_, _, setMap_at hlt _, ?_, ?_, ?_⟩, put_nodup hM.nodup⟩, Ext.setMap w b _, by simp⟩
    · simp [Instr.mapUpdate, run_underlying hT, MapKept.run_getObj_map h1, hc, hf, MapKept.run_setObj_map _ h1]
    · rw [q2]; simp [h2]
    · intro e he
      simp only [Array.toList_push, List.mem_append, List.mem_singleton] at he
      rcases he with he | rfl
      · have := h3 e he; omega
      · exact Nat.lt_succ_self _
    · simp only [Array.toList_push, List.map_append, List.map_cons, List.map_nil]
      rw [List.nodup_append]
      refine ⟨h4, by simp, fun a ha c hc' => ?_⟩
      simp only [List.mem_singleton] at hc'
      obtain ⟨e, he, rfl⟩ := List.mem_map.1 ha
      have := h3 e he
      omega
  · rw [q1] at hf
    simp only [Nat.zero_add] at hf
    have hj : ∃ e, es[j]? = some e ∧ e.key = enc x := by
      have h5 := congrArg (fun l => l[j]?) h2
      simp only [List.getElem?_map, q2, Option.map_some] at h5
      obtain ⟨e, he, h6⟩ := Option.map_eq_some_iff.1 h5
      simp only [Prod.mk.injEq] at h6
      exact ⟨e, by simpa using he, h6.1⟩
    obtain ⟨e0, he0, hk0⟩ := hj
    have hst := hK.stays x w
    have hmod : (es.modify j fun e => { e with key := enc x, val := v }).toList = es.toList.set j { e0 with key := enc x, val := v } := by
      apply List.ext_getElem?
      intro i
      simp only [Array.toList_modify, List.getElem?_modify, List.getElem?_set]
      by_cases e : j = i
      · subst e
        have hjl : j < es.toList.length := by have := (Array.getElem?_eq_some_iff.1 he0).1; simpa using this
        simp [he0, hjl]
        have := (Array.getElem?_eq_some_iff.1 he0).1
        omega
      · simp [e]
    refine ⟨{ w with heap := w.heap.setIfInBounds b (.map (es.modify j fun e => { e with key := enc x, val := v }) ck) }, ?_, ⟨⟨_, _, setMap_at hlt _, ?_, ?_, ?_⟩, put_nodup hM.nodup⟩, Ext.setMap w b _, by simp⟩
    · simp [Instr.mapUpdate, run_underlying hT, MapKept.run_getObj_map h1, hc, hf, he0, hk0, hst, MapKept.run_setObj_map _ h1]
    · rw [hmod, q3, List.map_set, List.map_set, h2]
    · intro e he
      rw [hmod] at he
      rcases List.mem_or_eq_of_mem_set he with he | rfl
      · exact h3 e he
      · exact h3 e0 (by have := Array.mem_of_getElem? he0; simpa using this)
    · rw [hmod, List.map_set]
      have : (es.toList.map (·.born))[j]? = some e0.born := by simp [he0]
      rw [show ({ e0 with key := enc x, val := v } : MapEntry).born = e0.born from rfl]
      have e2 : (es.toList.map (·.born)).set j e0.born = es.toList.map (·.born) := by
        apply List.ext_getElem?
        intro i
        rw [List.getElem?_set]
        split
        · rename_i e; subst e
          split
          · exact this.symm
          · rename_i hl; rw [List.getElem?_eq_none Zz]
        · rfl
      rw [e2]; exact h4
theorem updateE {M x y : Operand} {a : κ} {v : Value} (hT : P.underlying T = some (.map K E)) (hK : KeyT P K enc) (hM : Mp enc w b m) (hm : ρ M = .map (some b)) (hx : ρ x = enc a) (hy : ρ y = v) : DoesE P ⟨none, .mapUpdate T M x y, ty, pos, aft, g⟩ ρ w fun _ w' => Mp enc w' b (put a v m) ∧ Ext (fun k => k = b) w w' ∧ w'.heap.size = w.heap.size := by
  obtain ⟨w', h1, h2⟩ := run_update hT hK hM a v
  exact (does_skip (w' := w') rfl (by simp only [execOp, hm, hx, hy]; simp [h1])).e h2
theorem lenM {x : Operand} (hT : P.underlying T = some (.map K E)) (hM : Mp enc w b m) (hx : ρ x = .map (some b)) : Does P ⟨dst, .call ⟨.builtin .len, #[x], #[T]⟩, ty, pos, aft, g⟩ ρ w (.int .i64 (m.length : Int)) w := by
  obtain ⟨es, ck, h1, h2, _, _⟩ := hM.ex
  have hl : es.size = m.length := by
    have := congrArg List.length h2
    simpa using this
  exact does_run rfl (by simp [execOp, resolve, invoke, builtin, Builtin.len_, run_underlying hT, hx, MapKept.run_getObj_map h1, hl, goInt])
theorem deleteE {M x : Operand} {a : κ} {tx : TypeId} (hT : P.underlying T = some (.map K E)) (hK : KeyT P K enc) (hM : Mp enc w b m) (hm : ρ M = .map (some b)) (hx : ρ x = enc a) : DoesE P ⟨dst, .call ⟨.builtin .delete, #[M, x], #[T, tx]⟩, ty, pos, aft, g⟩ ρ w fun v w' => v = .tuple #[] ∧ Mp enc w' b (del a m) ∧ Ext (fun k => k = b) w w' ∧ w'.heap.size = w.heap.size := by
  obtain ⟨es, ck, h1, h2, h3, h4⟩ := hM.ex
  have hf := hK.find a m es.toList w h2
  have hc := hK.check es.isEmpty a w
  have hlt := hM.lt
  rcases fnd_spec a m 0 with ⟨q1, _, q3, _, _⟩ | ⟨j, u, q1, q2, _, q4, _⟩
  · rw [q1] at hf
    refine (does_run (w' := { w with heap := w.heap.setIfInBounds b (.map es ck) }) (v := .tuple #[]) rfl ?_).e ⟨rfl, ⟨⟨es, ck, setMap_at hlt _, by rw [q3]; exact h2, h3, h4⟩, by rw [q3]; exact hM.nodup⟩, Ext.setMap w b _, by simp⟩
    simp [execOp, resolve, invoke, builtin, Builtin.delete_, run_underlying hT, hm, hx, MapKept.run_getObj_map h1, hc, hf, MapKept.run_setObj_map _ h1]
  · rw [q1] at hf
    simp only [Nat.zero_add] at hf
    have he : (es.eraseIdxIfInBounds j).toList = es.toList.eraseIdx j := by simp
    refine (does_run (w' := { w with heap := w.heap.setIfInBounds b (.map (es.eraseIdxIfInBounds j) ck) }) (v := .tuple #[]) rfl ?_).e ⟨rfl, ⟨⟨_, ck, setMap_at hlt _, ?_, ?_, ?_⟩, del_nodup hM.nodup⟩, Ext.setMap w b _, by simp⟩
    · simp [execOp, resolve, invoke, builtin, Builtin.delete_, run_underlying hT, hm, hx, MapKept.run_getObj_map h1, hc, hf, MapKept.run_setObj_map _ h1]
    · rw [he, q4, map_erase, map_erase, h2]
    · intro e h5
      rw [he] at h5
      exact h3 e (List.mem_of_mem_eraseIdx h5)
    · rw [he, map_erase]
      exact h4.sublist (List.eraseIdx_sublist _ _)
theorem run_equalIn_map1 {P : Program} (w : World) (d : Nat) (hT : P.underlying T = some (.map K E)) : (Op.equalIn (d + 1) T (.map (some b)) (.map none)).run P w = .ok false w := by
  simp [Op.equalIn, run_underlying hT]
theorem run_equalIn_map0 {P : Program} (w : World) (d : Nat) (hT : P.underlying T = some (.map K E)) : (Op.equalIn (d + 1) T (.map none) (.map none)).run P w = .ok true w := by
  simp [Op.equalIn, run_underlying hT]
theorem neMap1 {T' : TypeId} {x : Operand} (hT : P.underlying T = some (.map K E)) (hx : ρ x = .map (some b)) (hy : ρ (.const (.map none)) = .map none) : Does P ⟨dst, .binOp .neq T x (.const (.map none)) T', ty, pos, aft, g⟩ ρ w (.bool true) w :=
  does_run rfl (by
    have h1 : (Op.equal T (.map (some b)) (.map none)).run P w = .ok false w := run_equalIn_map1 w 9999 hT
    simp only [execOp, hx, hy, binOp, eqGuard]
    simp [h1])
theorem neMap0 {T' : TypeId} {x : Operand} (hT : P.underlying T = some (.map K E)) (hx : ρ x = .map none) (hy : ρ (.const (.map none)) = .map none) : Does P ⟨dst, .binOp .neq T x (.const (.map none)) T', ty, pos, aft, g⟩ ρ w (.bool false) w :=
  does_run rfl (by
    have h1 : (Op.equal T (.map none) (.map none)).run P w = .ok true w := run_equalIn_map0 w 9999 hT
    simp only [execOp, hx, hy, binOp, eqGuard]
    simp [h1])
end
/-! ### elements as data -/
section
variable {κ ν μ : Type}
def mv (f : ν → μ) (m : List (κ × ν)) : List (κ × μ) := m.map fun p => (p.1, f p.2)
theorem mv_len (f : ν → μ) (m : List (κ × ν)) : (mv f m).length = m.length := by simp [mv]
variable [DecidableEq κ]
theorem asc_mv (f : ν → μ) (x : κ) : ∀ m : List (κ × ν), asc x (mv f m) = (asc x m).map f
  | [] => rfl
  | (a, u) :: m => by
    have ih := asc_mv f x m
    simp only [mv, List.map_cons, asc] at ih ⊢
    split
    · rfl
    · exact ih
theorem put_mv (f : ν → μ) (x : κ) (v : ν) : ∀ m : List (κ × ν), put x (f v) (mv f m) = mv f (put x v m)
  | [] => rfl
  | (a, u) :: m => by
    have ih := put_mv f x v m
    simp only [mv, List.map_cons, put] at ih ⊢
    split
    · rfl
    · simp only [List.map_cons]; rw [ih]
theorem del_mv (f : ν → μ) (x : κ) : ∀ m : List (κ × ν), del x (mv f m) = mv f (del x m)
  | [] => rfl
  | (a, u) :: m => by
    have ih := del_mv f x m
    simp only [mv, List.map_cons, del] at ih ⊢
    split
    · rfl
    · simp only [List.map_cons]; rw [ih]
end
abbrev MpV {κ ν : Type} (enc : κ → Value) (venc : ν → Value) (w : World) (b : Nat) (m : List (κ × ν)) : Prop := Mp enc w b (mv venc m)
section
variable {P : Program} {ρ : Operand → Value} {w : World} {dst : Option Tmp} {ty : TypeId} {pos : String} {aft : Array Edge} {g : Option (Nat × Bool)}
variable {κ ν : Type} [DecidableEq κ] {enc : κ → Value} {venc : ν → Value} {b : Nat} {m : List (κ × ν)} {T K E : TypeId}
theorem getD_map (f : ν → Value) (o : Option ν) (z : ν) : (o.map f).getD (f z) = f (o.getD z) := by cases o <;> rfl
theorem makeMapV {T : TypeId} {κ ν : Type} (enc : κ → Value) (venc : ν → Value) : DoesE P ⟨dst, .makeMap T none, ty, pos, aft, g⟩ ρ w fun v w' => v = .map (some w.heap.size) ∧ MpV enc venc w' w.heap.size [] ∧ Keep w w' ∧ w'.heap.size = w.heap.size + 1 := makeMapE enc
theorem lookupV {x y : Operand} {z : ν} {a : κ} (hT : P.underlying T = some (.map K E)) (hK : KeyT P K enc) (hz : ∀ w, (zeroValue E).run P w = .ok (venc z) w) (hM : MpV enc venc w b m) (hx : ρ x = .map (some b)) (hy : ρ y = enc a) : Does P ⟨dst, .lookup T x y false, ty, pos, aft, g⟩ ρ w (venc ((asc a m).getD z)) w := by
  have := lookupD (P := P) (ρ := ρ) (w := w) (dst := dst) (ty := ty) (pos := pos) (aft := aft) (g := g) hT hK hz hM hx hy
  rwa [asc_mv, getD_map] at this
theorem lookupOkV {x y : Operand} {z : ν} {a : κ} (hT : P.underlying T = some (.map K E)) (hK : KeyT P K enc) (hz : ∀ w, (zeroValue E).run P w = .ok (venc z) w) (hM : MpV enc venc w b m) (hx : ρ x = .map (some b)) (hy : ρ y = enc a) : Does P ⟨dst, .lookup T x y true, ty, pos, aft, g⟩ ρ w (.tuple #[venc ((asc a m).getD z), .bool (asc a m).isSome]) w := by
  have := lookupOk (P := P) (ρ := ρ) (w := w) (dst := dst) (ty := ty) (pos := pos) (aft := aft) (g := g) hT hK hz hM hx hy
  rw [asc_mv, getD_map] at this
  have e : ((asc a m).map venc).isSome = (asc a m).isSome := by cases asc a m <;> rfl
  rwa [e] at this
theorem updateV {M x y : Operand} {a : κ} {v : ν} (hT : P.underlying T = some (.map K E)) (hK : KeyT P K enc) (hM : MpV enc venc w b m) (hm : ρ M = .map (some b)) (hx : ρ x = enc a) (hy : ρ y = venc v) : DoesE P ⟨none, .mapUpdate T M x y, ty, pos, aft, g⟩ ρ w fun _ w' => MpV enc venc w' b (put a v m) ∧ Ext (fun k => k = b) w w' ∧ w'.heap.size = w.heap.size :=
  (updateE hT hK hM hm hx hy).mono fun _ w' ⟨h1, h2⟩ => ⟨by rw [put_mv] at h1; exact h1, h2⟩
theorem lenV {x : Operand} (hT : P.underlying T = some (.map K E)) (hM : MpV enc venc w b m) (hx : ρ x = .map (some b)) : Does P ⟨dst, .call ⟨.builtin .len, #[x], #[T]⟩, ty, pos, aft, g⟩ ρ w (.int .i64 (m.length : Int)) w := by
  have := lenM (P := P) (ρ := ρ) (w := w) (dst := dst) (ty := ty) (pos := pos) (aft := aft) (g := g) hT hM hx
  rwa [mv_len] at this
theorem deleteV {M x : Operand} {a : κ} {tx : TypeId} (hT : P.underlying T = some (.map K E)) (hK : KeyT P K enc) (hM : MpV enc venc w b m) (hm : ρ M = .map (some b)) (hx : ρ x = enc a) : DoesE P ⟨dst, .call ⟨.builtin .delete, #[M, x], #[T, tx]⟩, ty, pos, aft, g⟩ ρ w fun v w' => v = .tuple #[] ∧ MpV enc venc w' b (del a m) ∧ Ext (fun k => k = b) w w' ∧ w'.heap.size = w.heap.size :=
  (deleteE hT hK hM hm hx).mono fun _ w' ⟨h1, h2, h3⟩ => ⟨h1, by rw [del_mv] at h2; exact h2, h3⟩
end
end Go.Proofs.YtjjhddjllpihaaaGreatDoor.X
namespace Go.Proofs.YtjjhddjllpihaaaGreatDoor.X
open Go
section
variable {P : Program}
theorem run_next_at (w : World) (ty : TypeId) (r bm since c0 : Nat) (seen : Array Nat) (es : Array MapEntry) (clock : Nat) (hr : w.heap[r]? = some (.mapIter (some bm) since seen c0)) (hb : w.heap[bm]? = some (.map es clock)) (hold : ∀ x ∈ es.toList, x.born < since) (hsc : since ≤ c0) :
    ((leftOf es seen).size = 0 ∧ (Instr.next (.pointer (some ⟨r, 0, none⟩)) false ty).run P w = .ok (.tuple #[.bool false]) w) ∨
    ∃ e ∈ (leftOf es seen).toList, ∃ w1 : World, (w1 = w ∨ w1 = w.drew) ∧ (Instr.next (.pointer (some ⟨r, 0, none⟩)) false ty).run P w = .ok (.tuple #[.bool true, e.key, e.val]) { w1 with heap := w1.heap.setIfInBounds r (.mapIter (some bm) since (seen.push e.born) clock) } := by
  simp only [Instr.next, getObj, Sem.run_bind, Sem.run, hr, hb, Result.andThen, next_test_false seen es since c0 hold hsc, Bool.false_eq_true, if_false]
  unfold leftOf
  have hmem : ∀ x ∈ (Array.filter (fun e => !seen.contains e.born) es).toList, x.born < since := fun x hx => hold x (by simp at hx ⊢; exact hx.1)
  generalize Array.filter (fun e => !seen.contains e.born) es = L at hmem ⊢
  have e1 : L.filter (fun x => decide (x.born < since)) = L := Array.filter_eq_self.2 (fun x hx => by simpa using hmem x (by simpa using hx))
  have e2 : L.filter (fun x => decide (x.born ≥ since)) = #[] := by
    rw [Array.filter_eq_empty_iff]
    intro x hx
    have := hmem x (by simpa using hx)
    simp
    omega
  simp only [e1, e2, Array.append_empty]
  by_cases h0 : L.size = 0
  · left
    have : L = #[] := Array.eq_empty_of_size_eq_zero h0
    subst this
    refine ⟨rfl, ?_⟩
    simp [choose, Sem.run, Question.forced]
  · right
    have hne : L.isEmpty = false := by simp [Array.isEmpty, h0]
    simp only [hne, Bool.false_eq_true, if_false, Array.empty_append, Array.size_map]
    have hch : ∃ (j : Nat) (w1 : World), j < L.size ∧ (w1 = w ∨ w1 = w.drew) ∧ (choose (Question.mapNext L.size)).run P w = .ok j w1 := by
      by_cases hf : L.size ≤ 1
      · exact ⟨0, w, by omega, .inl rfl, by simp [choose, Sem.run, Question.forced, hf]⟩
      · exact ⟨_, w.drew, Nat.mod_lt _ Zz, .inr rfl, by
          simp only [choose, Sem.run, Question.forced, decide_eq_true_eq, hf, if_false, Question.cut]
          rfl⟩
    obtain ⟨j, w1, hj, hal, hrun⟩ := hch
    refine ⟨L[j], by simp, w1, hal, ?_⟩
    simp only [hrun, Array.getElem?_map, Array.getElem?_eq_getElem hj, Option.map_some, Sem.run_bind, setObj, Sem.run, Result.andThen]
    have hr1 : w1.heap[r]? = some (.mapIter (some bm) since seen c0) := by rcases hal with rfl | rfl <;> exact hr
    simp only [hr1]
    rfl
theorem run_entry_at (w : World) (r bm since : Nat) (seen : Array Nat) (es : Array MapEntry) (clock : Nat) (e : MapEntry) (hr : w.heap[r]? = some (.mapIter (some bm) since (seen.push e.born) clock)) (hb : w.heap[bm]? = some (.map es clock)) (he : e ∈ es.toList) (hn : (es.toList.map (·.born)).Nodup) :
    (Instr.entry (.pointer (some ⟨r, 0, none⟩))).run P w = .ok (.tuple #[e.key, e.val]) w := by
  have hf : es.find? (·.born == e.born) = some e := by rw [← Array.find?_toList]; exact find_born e es.toList hn he
  simp only [Instr.entry, getObj, Sem.run_bind, Sem.run, hr, hb, Result.andThen, Array.back?_push, bne_self_eq_false, Bool.false_eq_true, if_false, hf]
  rfl
end
structure It {κ : Type} (enc : κ → Value) (w : World) (r b : Nat) (m : List (κ × Value)) (ds : List κ) : Prop where
  ex : ∃ (es : Array MapEntry) (ck since c0 : Nat) (seen : Array Nat), w.heap[r]? = some (.mapIter (some b) since seen c0) ∧ w.heap[b]? = some (.map es ck) ∧ es.toList.map (fun e => (e.key, e.val)) = m.map (fun p => (enc p.1, p.2)) ∧ (∀ e ∈ es.toList, e.born < since) ∧ since ≤ c0 ∧ since ≤ ck ∧ (es.toList.map (·.born)).Nodup ∧ (∀ (i : Nat) e p, es.toList[i]? = some e → m[i]? = some p → (seen.contains e.born = true ↔ p.1 ∈ ds)) ∧ ∀ k t, ds = k :: t → ∃ (i : Nat) (e : MapEntry) (p : κ × Value) (sn : Array Nat), es.toList[i]? = some e ∧ m[i]? = some p ∧ p.1 = k ∧ seen = sn.push e.born ∧ c0 = ck
  nodup : (m.map (·.1)).Nodup
section
variable {P : Program} {ρ : Operand → Value} {w w' : World} {dst : Option Tmp} {ty : TypeId} {pos : String} {aft : Array Edge} {g : Option (Nat × Bool)}
variable {κ : Type} {enc : κ → Value} {r b : Nat} {m : List (κ × Value)} {ds : List κ} {T K E : TypeId}
theorem It.lt (h : It enc w r b m ds) : r < w.heap.size := let ⟨_, _, _, _, _, h, _⟩ := h.ex; lt_of_block h
theorem It.ext (h : It enc w r b m ds) {U : Nat → Prop} (x : Ext U w w') (hr : ¬ U r) (hb : ¬ U b) : It enc w' r b m ds :=
  ⟨let ⟨es, ck, since, c0, seen, h1, h2, h3⟩ := h.ex; ⟨es, ck, since, c0, seen, (x.keep r (lt_of_block h1) hr).trans h1, (x.keep b (lt_of_block h2) hb).trans h2, h3⟩, h.nodup⟩
theorem It.keep (h : It enc w r b m ds) (x : Keep w w') : It enc w' r b m ds := h.ext x id id
theorem rangeE {x : Operand} (hT : P.underlying T = some (.map K E)) (hM : Mp enc w b m) (hx : ρ x = .map (some b)) : DoesE P ⟨dst, .range T x, ty, pos, aft, g⟩ ρ w fun v w' => v = .pointer (some ⟨w.heap.size, 0, none⟩) ∧ It enc w' w.heap.size b m [] ∧ Keep w w' ∧ w'.heap.size = w.heap.size + 1 := by
  obtain ⟨es, ck, h1, h2, h3, h4⟩ := hM.ex
  have hb := lt_of_block h1
  refine (does_run (v := .pointer (some ⟨w.heap.size, 0, none⟩)) (w' := w.alloc (.mapIter (some b) ck #[] ck)) rfl (by simp only [execOp, hx]; rw [Sem.run_bind, run_range_map w T K E b es ck hT h1]; rfl)).e ⟨rfl, ⟨⟨es, ck, ck, ck, #[], heap_alloc_new w _, ?_, h2, h3, Nat.le_refl _, Nat.le_refl _, h4, fun i e p he hp => by simp, fun k t h => by cases h⟩, hM.nodup⟩, ⟨rfl, rfl, rfl, by simp, fun k hk _ => heap_alloc_old (h := hk) w _⟩, by simp⟩
  rw [← h1]; exact heap_alloc_old (h := hb) w _
theorem getP {es : List MapEntry} {m : List (κ × Value)} (h : es.map (fun e => (e.key, e.val)) = m.map (fun p => (enc p.1, p.2))) {i : Nat} {e : MapEntry} (he : es[i]? = some e) : ∃ p, m[i]? = some p ∧ e.key = enc p.1 ∧ e.val = p.2 := by
  have h1 := congrArg (fun l => l[i]?) h
  simp only [List.getElem?_map, he, Option.map_some] at h1
  cases hm : m[i]? with
  | none => rw [hm] at h1; cases h1
  | some p =>
    rw [hm] at h1
    simp only [Option.map_some, Option.some.injEq, Prod.mk.injEq] at h1
    exact ⟨p, rfl, h1.1, h1.2⟩
theorem nextE {x : Operand} (hI : It enc w r b m ds) (hx : ρ x = .pointer (some ⟨r, 0, none⟩)) : DoesE P ⟨dst, .next x false, ty, pos, aft, g⟩ ρ w fun v w' => (v = .tuple #[.bool false] ∧ (∀ p, p ∈ m → p.1 ∈ ds) ∧ w' = w) ∨ ∃ p, p ∈ m ∧ p.1 ∉ ds ∧ v = .tuple #[.bool true, enc p.1, p.2] ∧ It enc w' r b m (p.1 :: ds) ∧ Ext (fun q => q = r) w w' ∧ w'.heap.size = w.heap.size := by
  obtain ⟨es, ck, since, c0, seen, h1, h2, h3, h4, h5, h5b, h6, h7, h8⟩ := hI.ex
  have hlen : es.toList.length = m.length := by have := congrArg List.length h3; simpa using this
  have hrl := lt_of_block h1
  rcases run_next_at (P := P) w ty r b since c0 seen es ck h1 h2 h4 h5 with ⟨h9, h10⟩ | ⟨e, he, w1, hal, h10⟩
  · refine (does_run (v := .tuple #[.bool false]) (w' := w) rfl (by simp only [execOp, hx]; rw [Sem.run_bind, h10]; rfl)).e (.inl ⟨rfl, fun p hp => ?_, rfl⟩)
    obtain ⟨i, hi⟩ := List.getElem?_of_mem hp
    have hil : i < es.toList.length := by rw [hlen]; exact (List.getElem?_eq_some_iff.1 hi).1
    exact (h7 i _ p (List.getElem?_eq_getElem hil) hi).1 (all_seen es seen h9 _ (List.getElem_mem hil))
  · obtain ⟨hem, hsn⟩ := mem_left he
    obtain ⟨i, hi⟩ := List.getElem?_of_mem hem
    obtain ⟨p, hp, hk, hv⟩ := getP h3 hi
    rw [hk, hv] at h10
    have hheap : w1.heap = w.heap := by rcases hal with rfl | rfl <;> rfl
    have hsz : w1.heap.size = w.heap.size := by rw [hheap]
    have hget : ∀ k, k ≠ r → (w1.heap.setIfInBounds r (.mapIter (some b) since (seen.push e.born) ck))[k]? = w.heap[k]? := fun k hk => by
      rw [Array.getElem?_setIfInBounds, if_neg (fun h => hk h.symm), hheap]
    have hbr : b ≠ r := fun h => by rw [h] at h2; rw [h1] at h2; cases h2
    refine (does_run (v := .tuple #[.bool true, enc p.1, p.2]) (w' := _) rfl (by simp only [execOp, hx]; rw [Sem.run_bind, h10]; rfl)).e (.inr ⟨p, List.mem_of_getElem? hp, fun hd => ?_, rfl, ⟨⟨es, ck, since, ck, seen.push e.born, ?_, (hget b hbr).trans h2, h3, h4, h5b, h5b, h6, fun j f q hf hq => ?_, fun k t hkt => ?_⟩, hI.nodup⟩, ⟨?_, ?_, ?_, by simp [hsz], fun k hk hn => hget k hn⟩, by simp [hsz]⟩)
    · have := (h7 i e p hi hp).2 hd
      rw [this] at hsn; cases hsn
    · show (w1.heap.setIfInBounds r _)[r]? = _
      rw [Array.getElem?_setIfInBounds, if_pos rfl, if_pos (by rw [hsz]; exact hrl)]
    · rw [contains_push, Bool.or_eq_true, List.mem_cons, h7 j f q hf hq, beq_iff_eq]
      constructor
      · rintro (h | h)
        · exact .inr h
        · have : f = e := born_inj h6 (List.mem_of_getElem? hf) hem h
          subst this
          have hij : i = j := by
            have a1 : (es.toList.map (·.born))[i]? = some f.born := by rw [List.getElem?_map, hi]; rfl
            have a2 : (es.toList.map (·.born))[j]? = some f.born := by rw [List.getElem?_map, hf]; rfl
            exact (List.getElem?_inj (List.getElem?_eq_some_iff.1 a1).1 h6).1 (a1.trans a2.symm)
          subst hij
          rw [hp] at hq; cases hq
          exact .inl rfl
      · rintro (h | h)
        · right
          have hij : i = j := by
            have a1 : (m.map (·.1))[i]? = some p.1 := by rw [List.getElem?_map, hp]; rfl
            have a2 : (m.map (·.1))[j]? = some p.1 := by rw [List.getElem?_map, hq, ← h]; rfl
            exact (List.getElem?_inj (List.getElem?_eq_some_iff.1 a1).1 hI.nodup).1 (a1.trans a2.symm)
          subst hij
          rw [hi] at hf; cases hf; rfl
        · exact .inl h
    · cases hkt
      exact ⟨i, e, p, seen, hi, hp, rfl, rfl, rfl⟩
    · rcases hal with rfl | rfl <;> rfl
    · rcases hal with rfl | rfl <;> rfl
    · rcases hal with rfl | rfl <;> rfl
theorem entryE {x : Operand} {p : κ × Value} (hI : It enc w r b m (p.1 :: ds)) (hp : p ∈ m) (hx : ρ x = .pointer (some ⟨r, 0, none⟩)) : Does P ⟨dst, .entry x, ty, pos, aft, g⟩ ρ w (.tuple #[enc p.1, p.2]) w := by
  obtain ⟨es, ck, since, c0, seen, h1, h2, h3, h4, h5, h5b, h6, h7, h8⟩ := hI.ex
  obtain ⟨i, e, q, sn, he, hq, hqk, hs, hc⟩ := h8 p.1 ds rfl
  subst hs hc
  obtain ⟨q', hq', hk, hv⟩ := getP h3 he
  rw [hq] at hq'; cases hq'
  obtain ⟨j, hj⟩ := List.getElem?_of_mem hp
  have hij : i = j := by
    have a1 : (m.map (·.1))[i]? = some p.1 := by rw [List.getElem?_map, hq, ← hqk]; rfl
    have a2 : (m.map (·.1))[j]? = some p.1 := by rw [List.getElem?_map, hj]; rfl
    exact (List.getElem?_inj (List.getElem?_eq_some_iff.1 a1).1 hI.nodup).1 (a1.trans a2.symm)
  subst hij
  rw [hq] at hj; cases hj
  rw [← hk, ← hv]
  exact does_run rfl (by simp only [execOp, hx]; rw [Sem.run_bind, run_entry_at w r b since sn es _ e h1 h2 (List.mem_of_getElem? he) h6]; rfl)
end
theorem lookupAt {P : Program} {ρ : Operand → Value} {w : World} {dst : Option Tmp} {ty : TypeId} {pos : String} {aft : Array Edge} {g : Option (Nat × Bool)} {κ ν : Type} [DecidableEq κ] {enc : κ → Value} {venc : ν → Value} {b : Nat} {m : List (κ × ν)} {T K E : TypeId} {x y : Operand} {z : Value} {a : κ} {u : ν} (hT : P.underlying T = some (.map K E)) (hK : KeyT P K enc) (hz : ∀ w, (zeroValue E).run P w = .ok z w) (hM : MpV enc venc w b m) (ha : asc a m = some u) (hx : ρ x = .map (some b)) (hy : ρ y = enc a) : Does P ⟨dst, .lookup T x y false, ty, pos, aft, g⟩ ρ w (venc u) w := by
  have := lookupD (P := P) (ρ := ρ) (w := w) (dst := dst) (ty := ty) (pos := pos) (aft := aft) (g := g) hT hK hz hM hx hy
  rw [asc_mv, ha] at this
  exact this
end Go.Proofs.YtjjhddjllpihaaaGreatDoor.X
