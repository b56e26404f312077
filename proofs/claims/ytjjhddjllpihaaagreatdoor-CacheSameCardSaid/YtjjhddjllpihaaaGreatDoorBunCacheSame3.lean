/- Texts that the proof of CacheSame stands on, part 3. -/
import Derived.Lib.ConvBytes
import Derived.Laws.BytesArg
import Derived.Laws.CopyRow
import Derived.Test.YtjjhddjllpihaaaGreatDoorBunCacheSame2
set_option maxHeartbeats 4000000
set_option maxRecDepth 100000
set_option linter.unusedSimpArgs false
namespace Go.Proofs.YtjjhddjllpihaaaGreatDoor.X
open Go
theorem elem_eq {P : Program} {T e : TypeId} (h : P.underlying T = some (.slice e)) : P.underlying T = some (.slice (P.elem T)) := by
  have : P.elem T = e := by simp [Program.elem, h]
  rw [this]; exact h
theorem elem_is {P : Program} {T e : TypeId} (h : P.underlying T = some (.slice e)) : P.elem T = e := by simp [Program.elem, h]
section
variable {P : Program} {ρ : Operand → Value} {w : World} {dst : Option Tmp} {ty : TypeId} {pos : String} {aft : Array Edge} {g : Option (Nat × Bool)}
/-! ### reads -/
theorem load1B {T : TypeId} {x : Operand} {b i : Nat} {cs : List Value} {e : TypeId} {v : Value} (hT : ∀ w, (isAgg T).run P w = .ok false w) (hB : Blk w b cs e) (hx : ρ x = .pointer (some ⟨b, i, none⟩)) (hv : cs[i]? = some v) : Does P ⟨dst, .load T x, ty, pos, aft, g⟩ ρ w v w :=
  load1 hT hx (by rw [hB.cell]; exact hv)
theorem loadN {T : TypeId} {x : Operand} {ad : Addr} {n : Nat} {cs : List Value} (hT : ∀ w, (isAgg T).run P w = .ok true w) (hs : ∀ w, (sizeOf T).run P w = .ok n w) (hx : ρ x = .pointer (some ad)) (hl : cs.length = n) (hc : ∀ j u, cs[j]? = some u → w.cell? (ad.add j) = some u) :
    Does P ⟨dst, .load T x, ty, pos, aft, g⟩ ρ w (.agg cs.toArray) w := by
  subst hl
  exact does_run rfl (by simp [execOp, hx, Instr.loadAt, Instr.sureAddr, loadVar, hT, hs, run_loadCells_list w ad cs hc])
theorem loadNB {T : TypeId} {x : Operand} {b i n : Nat} {cs : List Value} {e : TypeId} (hT : ∀ w, (isAgg T).run P w = .ok true w) (hs : ∀ w, (sizeOf T).run P w = .ok n w) (hB : Blk w b cs e) (hx : ρ x = .pointer (some ⟨b, i, none⟩)) {vs : List Value} (hv : (cs.drop i).take n = vs) (hl : vs.length = n) :
    Does P ⟨dst, .load T x, ty, pos, aft, g⟩ ρ w (.agg vs.toArray) w :=
  loadN hT hs hx hl (fun j u hu => by
    rw [add_mk, hB.cell]
    rw [← hv, List.getElem?_take] at hu
    split at hu
    · rwa [List.getElem?_drop] at hu
    · cases hu)
/-! ### slices of slices, of strings -/
theorem cutH {T e : TypeId} {sz : Nat} {x h : Operand} {A : Option Addr} {n c : Nat} {kh : IntKind} {m : Int} (hT : P.underlying T = some (.slice e)) (hs : ∀ w, (sizeOf e).run P w = .ok sz w) (hx : ρ x = .slice A n c) (hh : ρ h = .int kh m) (h0 : 0 ≤ m ∧ m ≤ (c : Int)) :
    Does P ⟨dst, .slice T x none (some h) none, ty, pos, aft, g⟩ ρ w (.slice (if c = 0 then A else A.map (·.add (0 * sz))) m.toNat c) w :=
  does_run rfl (by
    have := run_slice_h (P := P) w T A n c (elem_eq hT) kh m h0.1 h0.2
    simp [execOp, hx, hh, run_sliceAt_slice _ _ _ _ _ _ (elem_eq hT), this, elem_is hT, hs, sliced, Result.andThen])
theorem cutL {T e : TypeId} {sz : Nat} {x l : Operand} {A : Option Addr} {n c : Nat} {kl : IntKind} {m : Int} (hT : P.underlying T = some (.slice e)) (hs : ∀ w, (sizeOf e).run P w = .ok sz w) (hx : ρ x = .slice A n c) (hl : ρ l = .int kl m) (h0 : 0 ≤ m ∧ m ≤ (n : Int)) :
    Does P ⟨dst, .slice T x (some l) none none, ty, pos, aft, g⟩ ρ w (.slice (if c = m.toNat then A else A.map (·.add (m.toNat * sz))) (n - m.toNat) (c - m.toNat)) w :=
  does_run rfl (by
    have := run_slice_l (P := P) w T A n c (elem_eq hT) kl m h0.1 h0.2
    simp [execOp, hx, hl, run_sliceAt_slice _ _ _ _ _ _ (elem_eq hT), this, elem_is hT, hs, sliced, Result.andThen])
theorem cutLH {T e : TypeId} {sz : Nat} {x l h : Operand} {A : Option Addr} {n c : Nat} {kl kh : IntKind} {p q : Int} (hT : P.underlying T = some (.slice e)) (hs : ∀ w, (sizeOf e).run P w = .ok sz w) (hx : ρ x = .slice A n c) (hl : ρ l = .int kl p) (hh : ρ h = .int kh q) (h0 : 0 ≤ p ∧ p ≤ q ∧ q ≤ (c : Int)) :
    Does P ⟨dst, .slice T x (some l) (some h) none, ty, pos, aft, g⟩ ρ w (.slice (if c = p.toNat then A else A.map (·.add (p.toNat * sz))) (q.toNat - p.toNat) (c - p.toNat)) w :=
  does_run rfl (by
    have := run_slice_lh (P := P) w T A n c (elem_eq hT) kl kh p q h0.1 h0.2.1 h0.2.2
    simp [execOp, hx, hl, hh, run_sliceAt_slice _ _ _ _ _ _ (elem_eq hT), this, elem_is hT, hs, sliced, Result.andThen])
theorem cutH_A (c sz : Nat) (A : Option Addr) : (if c = 0 then A else A.map (·.add (0 * sz))) = A := by
  split
  · rfl
  · cases A with
    | none => rfl
    | some a => simp [add_zero]
theorem cutHr {T e : TypeId} {sz : Nat} {x h : Operand} {A : Option Addr} {n c : Nat} {kh : IntKind} {m : Int} (hT : P.underlying T = some (.slice e)) (hs : ∀ w, (sizeOf e).run P w = .ok sz w) (hx : ρ x = .slice A n c) (hh : ρ h = .int kh m) (h0 : 0 ≤ m ∧ m ≤ (c : Int)) :
    Does P ⟨dst, .slice T x none (some h) none, ty, pos, aft, g⟩ ρ w (.slice A m.toNat c) w := by
  have := cutH (P := P) (ρ := ρ) (w := w) (dst := dst) (ty := ty) (pos := pos) (aft := aft) (g := g) hT hs hx hh h0
  rwa [cutH_A] at this
/-! ### conversions of bytes -/
theorem str {S T e : TypeId} {x : Operand} {A : Option Addr} {n c : Nat} {l : List UInt8} {K : Kd UInt8} {lo hi : Nat} (hS : P.underlying S = some (.slice e)) (he : P.underlying e = some (.int .u8)) (hT : P.underlying T = some .string) (hK : K.sz = 1) (hR : ∀ y cs, K.R lo hi w y cs → cs = [.int .u8 (y.toNat : Int)]) (hx : ρ x = .slice A n c) (hs : Sl K lo hi w A n l) :
    Does P ⟨dst, .convert S T x, ty, pos, aft, g⟩ ρ w (.string ⟨l.toArray⟩) w := by
  refine does_run rfl ?_
  have key : (convert S T (.slice A n c)).run P w = .ok (.string ⟨l.toArray⟩) w := by
    rcases Nat.eq_zero_or_pos n with h0 | h0
    · have hl : l = [] := List.eq_nil_of_length_eq_zero (hs.len.trans h0)
      subst hl
      subst h0
      cases A with
      | none => exact run_convert_bytes_nil w S e hS he 0 c T hT
      | some ad =>
        rw [run_convert_bytes_string w S T e _ 0 c hS he hT, run_bytesToString w ad 0 c [] (by rfl)]
        rfl
    · obtain ⟨ad, e1, _, _, hq⟩ := hs.at_ h0
      subst e1
      rw [run_convert_bytes_string w S T e _ n c hS he hT, run_bytesToString w ad n c (l.map fun y => (y.toNat : Int)) ?_, foldl_push_bytes]
      · have hm : (l.map fun y => (y.toNat : Int)).map (fun n => UInt8.ofNat n.toNat) = l := by
          rw [List.map_map]
          conv => rhs; rw [← List.map_id l]
          exact List.map_congr_left fun y _ => by simp
        rw [hm]
        simp [ByteArray.empty, ByteArray.emptyWithCapacity]
        rfl
      · have := run_loadCells_list (P := P) w ad (l.map fun y => Value.int .u8 (y.toNat : Int)) (fun j v hj => by
          rw [List.getElem?_map] at hj
          obtain ⟨y, hy, rfl⟩ := Option.map_eq_some_iff.1 hj
          obtain ⟨cs, hr, hcell⟩ := hq j y hy
          have := hcell 0 (.int .u8 (y.toNat : Int)) (by rw [hR y cs hr]; rfl)
          rwa [hK, Nat.mul_one, Nat.add_zero] at this)
        rw [List.length_map, hs.len] at this
        rw [List.map_map]
        exact this
  simp [execOp, hx, key]
end
section
variable {P : Program} {f : FuncId} {N : Nat} {rd : Option Nat} {k : List Item} {E : Env} {D : List Deferred} {w : World} {R : Out → World → Prop} {ops : Array Oper} {l : List Oper} {dst : Option Tmp} {ty : TypeId} {pos : String} {aft : Array Edge} {g : Option (Nat × Bool)}
def Wanted (N : Nat) (E : Env) (ops : Array Oper) (o : Option (Nat × Bool)) : Prop := ∀ tmps, Rep N E tmps → ∀ x : Oper, x.guard = o → Region.wanted x (yielded ops tmps) = true
theorem wN : Wanted N E ops none := fun _ _ x hx => by simp [Region.wanted, hx]
theorem wG {j d : Nat} {b : Bool} (hj : (ops[j]?).bind (·.dst) = some d) (hb : E.ev (.tmp d) = .bool b) (hdN : Nat.blt d N = true) : Wanted N E ops (some (j, b)) := fun tmps ht x hx => by
  have h1 : tmps.getD d undef = .bool b := (ht.at_ d).trans hb
  have hs := ht.size
  have hlt : d < tmps.size := by rw [hs]; exact blt_lt hdN
  have h2 : tmps[d]? = some (.bool b) := by
    rw [Array.getElem?_eq_getElem hlt]
    simpa [Array.getD, hlt] using h1
  simp [Region.wanted, hx, yielded, hj, h2]
theorem opw {o : Oper} {v : Value} {w' : World} (hw : Wanted N E ops o.guard) (hd : dstOk N o.dst = true) (ho : Does P o E.ev w v w') (h : Ops P f N rd ops l k (E.put o.dst v) D w' R) : Ops P f N rd ops (o :: l) k E D w R :=
  opW (fun tmps ht => hw tmps ht o rfl) (dstOk.lt hd) ho h
theorem opE {o : Oper} {Q : Value → World → Prop} (hw : Wanted N E ops o.guard) (hd : dstOk N o.dst = true) (ho : DoesE P o E.ev w Q) (h : ∀ v w', Q v w' → Ops P f N rd ops l k (E.put o.dst v) D w' R) : Ops P f N rd ops (o :: l) k E D w R :=
  opWE (fun tmps ht => hw tmps ht o rfl) (dstOk.lt hd) ho h
theorem opB {o : Oper} {d : Nat} {b : Bool} {w' : World} (hw : Wanted N E ops o.guard) (hd : dstOk N o.dst = true) (he : o.dst = some d) (ho : Does P o E.ev w (.bool b) w') (h1 : b = true → Ops P f N rd ops l k (E.put (some d) (.bool true)) D w' R) (h0 : b = false → Ops P f N rd ops l k (E.put (some d) (.bool false)) D w' R) : Ops P f N rd ops (o :: l) k E D w R := by
  cases b with
  | true => exact opw hw hd ho (by rw [he]; exact h1 rfl)
  | false => exact opw hw hd ho (by rw [he]; exact h0 rfl)
theorem opP {o : Oper} {d : Nat} {p : Prop} [Decidable p] {w' : World} (hw : Wanted N E ops o.guard) (hd : dstOk N o.dst = true) (he : o.dst = some d) (ho : Does P o E.ev w (.bool (decide p)) w') (h1 : p → Ops P f N rd ops l k (E.put (some d) (.bool true)) D w' R) (h0 : ¬ p → Ops P f N rd ops l k (E.put (some d) (.bool false)) D w' R) : Ops P f N rd ops (o :: l) k E D w R :=
  opB hw hd he ho (fun h => h1 (of_decide_eq_true h)) (fun h => h0 (of_decide_eq_false h))
end
/-! ### new blocks, stores -/
section
variable {P : Program} {ρ : Operand → Value} {w : World} {dst : Option Tmp} {ty : TypeId} {pos : String} {aft : Array Edge} {g : Option (Nat × Bool)}
theorem allocE {T : TypeId} {z : Value} (hz : ∀ w, (zeroValue T).run P w = .ok z w) {zs : List Value} (hzs : z.cells = zs.toArray) :
    DoesE P ⟨dst, .alloc T, ty, pos, aft, g⟩ ρ w fun v w' => v = .pointer (some ⟨w.heap.size, 0, none⟩) ∧ Blk w' w.heap.size zs T ∧ Keep w w' ∧ w'.heap.size = w.heap.size + 1 :=
  (does_run (w' := w.alloc (.cells zs.toArray T)) rfl (by simp [execOp, Instr.alloc, hz, newVar, newRow, hzs])).e ⟨rfl, Blk.new w zs T, Keep.alloc w _, by simp⟩
theorem boxE {T : TypeId} {x : Operand} {v : Value} (hx : ρ x = v) {zs : List Value} (hzs : v.cells = zs.toArray) :
    DoesE P ⟨dst, .box T x, ty, pos, aft, g⟩ ρ w fun v w' => v = .pointer (some ⟨w.heap.size, 0, none⟩) ∧ Blk w' w.heap.size zs T ∧ Keep w w' ∧ w'.heap.size = w.heap.size + 1 :=
  (does_run (w' := w.alloc (.cells zs.toArray T)) rfl (by simp [execOp, Instr.box, hx, newVar, newRow, hzs])).e ⟨rfl, Blk.new w zs T, Keep.alloc w _, by simp⟩
theorem storeE {T : TypeId} {a x : Operand} {b i : Nat} {cs : List Value} {e : TypeId} {v : Value} (hs : ∀ w, (sizeOf T).run P w = .ok 1 w) (hB : Blk w b cs e) (ha : ρ a = .pointer (some ⟨b, i, none⟩)) (hx : ρ x = v) (hi : Nat.blt i cs.length = true) (h1 : v.oneCell' = true) :
    DoesE P ⟨none, .store T a x, ty, pos, aft, g⟩ ρ w fun _ w' => Blk w' b (cs.set i v) e ∧ Ext (fun k => k = b) w w' ∧ w'.heap.size = w.heap.size := by
  have hi := blt_lt hi
  have hc : w.cell? ⟨b, i, none⟩ = some (cs[i]'hi) := by rw [hB.cell]; exact List.getElem?_eq_getElem hi
  have hf := hB.free i
  have hv : v.cells = #[v] := by cases v <;> first | rfl | cases h1
  have hst : (store ⟨b, i, none⟩ v).run P w = .ok () (w.setCell ⟨b, i, none⟩ v) := by
    cases v <;> first | (simp [store, Sem.run, hc, hf]; done) | cases h1
  refine (does_skip (w' := w.setCell ⟨b, i, none⟩ v) rfl ?_).e ⟨hB.set i v, Ext.setCell w ⟨b, i, none⟩ v, by simp⟩
  simp only [execOp, ha, hx, Instr.storeAt, Instr.sureAddr, storeVar, hv]
  simp [hs, storeCells, add_zero, hst]
theorem storeNE {T : TypeId} {a x : Operand} {b n : Nat} {cs vs : List Value} {e : TypeId} (hs : ∀ w, (sizeOf T).run P w = .ok n w) (hB : Blk w b cs e) (ha : ρ a = .pointer (some ⟨b, 0, none⟩)) (hx : ρ x = .agg vs.toArray) (hn : vs.length = n) (hl : cs.length = n) (h1 : ∀ v, v ∈ vs → v.oneCell' = true) :
    DoesE P ⟨none, .store T a x, ty, pos, aft, g⟩ ρ w fun _ w' => Blk w' b vs e ∧ Ext (fun k => k = b) w w' ∧ w'.heap.size = w.heap.size := by
  have hst := run_storeCells_from (P := P) b e vs 0 cs.toArray w hB (by simp [hn, hl]) h1
  simp only [List.take_zero, List.nil_append] at hst
  have hB' : Blk (w.setRow b vs.toArray) b vs e := by
    unfold Blk at hB ⊢
    simp only [World.setRow, Array.getElem?_modify, if_true, hB, Option.map_some]
  have hext : Ext (fun k => k = b) w (w.setRow b vs.toArray) := ⟨rfl, rfl, rfl, by simp [World.setRow], fun k _ hk => by simp only [World.setRow, Array.getElem?_modify]; rw [if_neg (fun h => hk h.symm)]⟩
  refine (does_skip (w' := w.setRow b vs.toArray) rfl ?_).e ⟨hB', hext, by simp [World.setRow]⟩
  simp only [execOp, ha, hx, Instr.storeAt, Instr.sureAddr, storeVar, Value.cells]
  simp [hs, hn, hst]
/-! ### elements by index -/
theorem idxS {α : Type} {K : Kd α} {lo hi : Nat} {e T : TypeId} {x i : Operand} {ki : IntKind} {A : Option Addr} {n c : Nat} {xs : List α} {j : Int} (hS : Sl K lo hi w A n xs) (hT : P.underlying T = some (.slice e)) (hs : ∀ w, (sizeOf e).run P w = .ok K.sz w) (hx : ρ x = .slice A n c) (hi : ρ i = .int ki j) (h0 : 0 ≤ j ∧ j < (n : Int)) :
    Does P ⟨dst, .indexAddr T x i, ty, pos, aft, g⟩ ρ w (.pointer (some ((A.getD default).add (j.toNat * K.sz)))) w := by
  obtain ⟨ad, e1, _⟩ := hS.at_ Zz
  subst e1
  exact idxAddr hT hs hx hi h0
theorem loadS {α : Type} {K : Kd α} {lo hi : Nat} {T : TypeId} {x : Operand} {A : Option Addr} {n j : Nat} {xs : List α} {y : α} {v : Value} (hT : ∀ w, (isAgg T).run P w = .ok false w) (hS : Sl K lo hi w A n xs) (hy : xs[j]? = some y) (hx : ρ x = .pointer (some ((A.getD default).add (j * K.sz)))) (hv : ∀ cs, K.R lo hi w y cs → cs[0]? = some v) :
    Does P ⟨dst, .load T x, ty, pos, aft, g⟩ ρ w v w := by
  obtain ⟨ad, cs, e, hr, hq⟩ := hS.get j y hy
  subst e
  exact load1 hT hx (by have := hq 0 v (hv cs hr); rwa [Nat.add_zero] at this)
theorem loadSN {α : Type} {K : Kd α} {lo hi : Nat} {T : TypeId} {x : Operand} {A : Option Addr} {n j m : Nat} {xs : List α} {y : α} {vs : List Value} (hT : ∀ w, (isAgg T).run P w = .ok true w) (hs : ∀ w, (sizeOf T).run P w = .ok m w) (hS : Sl K lo hi w A n xs) (hy : xs[j]? = some y) (hx : ρ x = .pointer (some ((A.getD default).add (j * K.sz))))
    (hv : ∀ cs, K.R lo hi w y cs → cs = vs) (hm : vs.length = m) : Does P ⟨dst, .load T x, ty, pos, aft, g⟩ ρ w (.agg vs.toArray) w := by
  obtain ⟨ad, cs, e, hr, hq⟩ := hS.get j y hy
  subst e
  have hcs := hv cs hr
  subst hcs
  exact loadN hT hs hx hm (fun i u hu => by rw [add_add]; exact hq i u hu)
theorem fldB {S : TypeId} {fields : Array Field} {fd : Field} {x : Operand} {b o i j n : Nat} (hS : P.underlying S = some (.struct fields)) (hf : fields[i]? = some fd) (hx : ρ x = .pointer (some ⟨b, o, none⟩)) (hn : ∀ w, (sizeOf fd.type).run P w = .ok (n + 1) w) (hj : o + fd.offset = j) :
    Does P ⟨dst, .fieldAddr S x i, ty, pos, aft, g⟩ ρ w (.pointer (some ⟨b, j, none⟩)) w := by
  have := fldAddr (P := P) (ρ := ρ) (w := w) (dst := dst) (ty := ty) (pos := pos) (aft := aft) (g := g) (ad := ⟨b, o, none⟩) hS hf hx (fun w => by simp [fieldPlace, hn])
  rw [add_mk, hj] at this
  exact this
end
section
variable {P : Program} {f : FuncId} {N : Nat} {rd : Option Nat} {k : List Item} {E : Env} {D : List Deferred} {w : World} {R : Out → World → Prop} {ops : Array Oper} {l : List Oper} {dst : Option Tmp} {ty : TypeId} {pos : String} {aft : Array Edge} {g : Option (Nat × Bool)} {ρ : Operand → Value}
theorem Zo {op : Op} {v : Value} {w' : World} (ho : Does P ⟨dst, op, ty, pos, aft, none⟩ E.ev w v w') (hd : dstOk N dst = true) (h : Ops P f N rd ops l k (E.put dst v) D w' R) : Ops P f N rd ops (⟨dst, op, ty, pos, aft, none⟩ :: l) k E D w R := opw wN hd ho h
theorem Zg {op : Op} {v : Value} {w' : World} {j d : Nat} {b : Bool} (ho : Does P ⟨dst, op, ty, pos, aft, some (j, b)⟩ E.ev w v w') (hj : (ops[j]?).bind (·.dst) = some d) (hb : E.ev (.tmp d) = .bool b) (hdN : Nat.blt d N = true) (hd : dstOk N dst = true) (h : Ops P f N rd ops l k (E.put dst v) D w' R) : Ops P f N rd ops (⟨dst, op, ty, pos, aft, some (j, b)⟩ :: l) k E D w R := opw (wG hj hb hdN) hd ho h
theorem Zc {op : Op} {Q : Value → World → Prop} (ho : DoesE P ⟨dst, op, ty, pos, aft, none⟩ E.ev w Q) (hd : dstOk N dst = true) (h : ∀ v w', Q v w' → Ops P f N rd ops l k (E.put dst v) D w' R) : Ops P f N rd ops (⟨dst, op, ty, pos, aft, none⟩ :: l) k E D w R := opE wN hd ho h
theorem Zp {op : Op} {j d : Nat} {b : Bool} (hj : (ops[j]?).bind (·.dst) = some d) (hb : E.ev (.tmp d) = .bool (!b)) (hd : dstOk N dst = true) (h : Ops P f N rd ops l k (E.put dst undef) D w R) : Ops P f N rd ops (⟨dst, op, ty, pos, aft, some (j, b)⟩ :: l) k E D w R := opS rfl hj hb (by cases b <;> rfl) hd h
theorem Zoai {x : Operand} {z : Int} (hx : E.ev x = .int .i64 z) (hd : dstOk N dst = true) (h : Ops P f N rd ops l k (E.put dst (.int .i64 z)) D w R) : Ops P f N rd ops (⟨dst, .assign x, ty, pos, aft, none⟩ :: l) k E D w R := opw wN hd (assign hx) h
theorem Zdai {x : Operand} {z : Int} (hx : ρ x = .int .i64 z) : Does P ⟨dst, .assign x, ty, pos, aft, g⟩ ρ w (.int .i64 z) w := assign hx
theorem Zoat {x : Operand}  (hx : E.ev x = .bool true) (hd : dstOk N dst = true) (h : Ops P f N rd ops l k (E.put dst (.bool true)) D w R) : Ops P f N rd ops (⟨dst, .assign x, ty, pos, aft, none⟩ :: l) k E D w R := opw wN hd (assign hx) h
theorem Zdat {x : Operand}  (hx : ρ x = .bool true) : Does P ⟨dst, .assign x, ty, pos, aft, g⟩ ρ w (.bool true) w := assign hx
theorem Zoaf {x : Operand}  (hx : E.ev x = .bool false) (hd : dstOk N dst = true) (h : Ops P f N rd ops l k (E.put dst (.bool false)) D w R) : Ops P f N rd ops (⟨dst, .assign x, ty, pos, aft, none⟩ :: l) k E D w R := opw wN hd (assign hx) h
theorem Zdaf {x : Operand}  (hx : ρ x = .bool false) : Does P ⟨dst, .assign x, ty, pos, aft, g⟩ ρ w (.bool false) w := assign hx
theorem Zoas {x : Operand} {A : Option Addr} {n c : Nat} (hx : E.ev x = .slice A n c) (hd : dstOk N dst = true) (h : Ops P f N rd ops l k (E.put dst (.slice A n c)) D w R) : Ops P f N rd ops (⟨dst, .assign x, ty, pos, aft, none⟩ :: l) k E D w R := opw wN hd (assign hx) h
theorem Zdas {x : Operand} {A : Option Addr} {n c : Nat} (hx : ρ x = .slice A n c) : Does P ⟨dst, .assign x, ty, pos, aft, g⟩ ρ w (.slice A n c) w := assign hx
theorem Zoau {x : Operand} {z : Int} (hx : E.ev x = .int .u64 z) (hd : dstOk N dst = true) (h : Ops P f N rd ops l k (E.put dst (.int .u64 z)) D w R) : Ops P f N rd ops (⟨dst, .assign x, ty, pos, aft, none⟩ :: l) k E D w R := opw wN hd (assign hx) h
theorem Zdau {x : Operand} {z : Int} (hx : ρ x = .int .u64 z) : Does P ⟨dst, .assign x, ty, pos, aft, g⟩ ρ w (.int .u64 z) w := assign hx
theorem Zoaw {x : Operand} {z : Int} (hx : E.ev x = .int .u32 z) (hd : dstOk N dst = true) (h : Ops P f N rd ops l k (E.put dst (.int .u32 z)) D w R) : Ops P f N rd ops (⟨dst, .assign x, ty, pos, aft, none⟩ :: l) k E D w R := opw wN hd (assign hx) h
theorem Zdaw {x : Operand} {z : Int} (hx : ρ x = .int .u32 z) : Does P ⟨dst, .assign x, ty, pos, aft, g⟩ ρ w (.int .u32 z) w := assign hx
theorem Zoab {x : Operand} {z : Int} (hx : E.ev x = .int .u8 z) (hd : dstOk N dst = true) (h : Ops P f N rd ops l k (E.put dst (.int .u8 z)) D w R) : Ops P f N rd ops (⟨dst, .assign x, ty, pos, aft, none⟩ :: l) k E D w R := opw wN hd (assign hx) h
theorem Zdab {x : Operand} {z : Int} (hx : ρ x = .int .u8 z) : Does P ⟨dst, .assign x, ty, pos, aft, g⟩ ρ w (.int .u8 z) w := assign hx
theorem Zoag {x : Operand} {z : ByteArray} (hx : E.ev x = .string z) (hd : dstOk N dst = true) (h : Ops P f N rd ops l k (E.put dst (.string z)) D w R) : Ops P f N rd ops (⟨dst, .assign x, ty, pos, aft, none⟩ :: l) k E D w R := opw wN hd (assign hx) h
theorem Zdag {x : Operand} {z : ByteArray} (hx : ρ x = .string z) : Does P ⟨dst, .assign x, ty, pos, aft, g⟩ ρ w (.string z) w := assign hx
theorem Zoao {x : Operand} {z : Bool} (hx : E.ev x = .bool z) (hd : dstOk N dst = true) (h : Ops P f N rd ops l k (E.put dst (.bool z)) D w R) : Ops P f N rd ops (⟨dst, .assign x, ty, pos, aft, none⟩ :: l) k E D w R := opw wN hd (assign hx) h
theorem Zdao {x : Operand} {z : Bool} (hx : ρ x = .bool z) : Does P ⟨dst, .assign x, ty, pos, aft, g⟩ ρ w (.bool z) w := assign hx
theorem Zoaa {x : Operand} {z : Array Value} (hx : E.ev x = .agg z) (hd : dstOk N dst = true) (h : Ops P f N rd ops l k (E.put dst (.agg z)) D w R) : Ops P f N rd ops (⟨dst, .assign x, ty, pos, aft, none⟩ :: l) k E D w R := opw wN hd (assign hx) h
theorem Zdaa {x : Operand} {z : Array Value} (hx : ρ x = .agg z) : Does P ⟨dst, .assign x, ty, pos, aft, g⟩ ρ w (.agg z) w := assign hx
theorem Zoa {x : Operand} {v : Value} (hx : E.ev x = v) (hd : dstOk N dst = true) (h : Ops P f N rd ops l k (E.put dst v) D w R) : Ops P f N rd ops (⟨dst, .assign x, ty, pos, aft, none⟩ :: l) k E D w R := opw wN hd (assign hx) h
theorem Zomi {x : Operand} {z : Int} (hx : E.ev x = .int .i64 z) (hd : dstOk N dst = true) (h : Ops P f N rd ops l k (E.put dst (.int .i64 z)) D w R) : Ops P f N rd ops (⟨dst, .move x, ty, pos, aft, none⟩ :: l) k E D w R := opw wN hd (move hx) h
theorem Zdmi {x : Operand} {z : Int} (hx : ρ x = .int .i64 z) : Does P ⟨dst, .move x, ty, pos, aft, g⟩ ρ w (.int .i64 z) w := move hx
theorem Zomt {x : Operand}  (hx : E.ev x = .bool true) (hd : dstOk N dst = true) (h : Ops P f N rd ops l k (E.put dst (.bool true)) D w R) : Ops P f N rd ops (⟨dst, .move x, ty, pos, aft, none⟩ :: l) k E D w R := opw wN hd (move hx) h
theorem Zdmt {x : Operand}  (hx : ρ x = .bool true) : Does P ⟨dst, .move x, ty, pos, aft, g⟩ ρ w (.bool true) w := move hx
theorem Zomf {x : Operand}  (hx : E.ev x = .bool false) (hd : dstOk N dst = true) (h : Ops P f N rd ops l k (E.put dst (.bool false)) D w R) : Ops P f N rd ops (⟨dst, .move x, ty, pos, aft, none⟩ :: l) k E D w R := opw wN hd (move hx) h
theorem Zdmf {x : Operand}  (hx : ρ x = .bool false) : Does P ⟨dst, .move x, ty, pos, aft, g⟩ ρ w (.bool false) w := move hx
theorem Zoms {x : Operand} {A : Option Addr} {n c : Nat} (hx : E.ev x = .slice A n c) (hd : dstOk N dst = true) (h : Ops P f N rd ops l k (E.put dst (.slice A n c)) D w R) : Ops P f N rd ops (⟨dst, .move x, ty, pos, aft, none⟩ :: l) k E D w R := opw wN hd (move hx) h
theorem Zdms {x : Operand} {A : Option Addr} {n c : Nat} (hx : ρ x = .slice A n c) : Does P ⟨dst, .move x, ty, pos, aft, g⟩ ρ w (.slice A n c) w := move hx
theorem Zomu {x : Operand} {z : Int} (hx : E.ev x = .int .u64 z) (hd : dstOk N dst = true) (h : Ops P f N rd ops l k (E.put dst (.int .u64 z)) D w R) : Ops P f N rd ops (⟨dst, .move x, ty, pos, aft, none⟩ :: l) k E D w R := opw wN hd (move hx) h
theorem Zdmu {x : Operand} {z : Int} (hx : ρ x = .int .u64 z) : Does P ⟨dst, .move x, ty, pos, aft, g⟩ ρ w (.int .u64 z) w := move hx
theorem Zomw {x : Operand} {z : Int} (hx : E.ev x = .int .u32 z) (hd : dstOk N dst = true) (h : Ops P f N rd ops l k (E.put dst (.int .u32 z)) D w R) : Ops P f N rd ops (⟨dst, .move x, ty, pos, aft, none⟩ :: l) k E D w R := opw wN hd (move hx) h
theorem Zdmw {x : Operand} {z : Int} (hx : ρ x = .int .u32 z) : Does P ⟨dst, .move x, ty, pos, aft, g⟩ ρ w (.int .u32 z) w := move hx
theorem Zomb {x : Operand} {z : Int} (hx : E.ev x = .int .u8 z) (hd : dstOk N dst = true) (h : Ops P f N rd ops l k (E.put dst (.int .u8 z)) D w R) : Ops P f N rd ops (⟨dst, .move x, ty, pos, aft, none⟩ :: l) k E D w R := opw wN hd (move hx) h
theorem Zdmb {x : Operand} {z : Int} (hx : ρ x = .int .u8 z) : Does P ⟨dst, .move x, ty, pos, aft, g⟩ ρ w (.int .u8 z) w := move hx
theorem Zomg {x : Operand} {z : ByteArray} (hx : E.ev x = .string z) (hd : dstOk N dst = true) (h : Ops P f N rd ops l k (E.put dst (.string z)) D w R) : Ops P f N rd ops (⟨dst, .move x, ty, pos, aft, none⟩ :: l) k E D w R := opw wN hd (move hx) h
theorem Zdmg {x : Operand} {z : ByteArray} (hx : ρ x = .string z) : Does P ⟨dst, .move x, ty, pos, aft, g⟩ ρ w (.string z) w := move hx
theorem Zomo {x : Operand} {z : Bool} (hx : E.ev x = .bool z) (hd : dstOk N dst = true) (h : Ops P f N rd ops l k (E.put dst (.bool z)) D w R) : Ops P f N rd ops (⟨dst, .move x, ty, pos, aft, none⟩ :: l) k E D w R := opw wN hd (move hx) h
theorem Zdmo {x : Operand} {z : Bool} (hx : ρ x = .bool z) : Does P ⟨dst, .move x, ty, pos, aft, g⟩ ρ w (.bool z) w := move hx
theorem Zoma {x : Operand} {z : Array Value} (hx : E.ev x = .agg z) (hd : dstOk N dst = true) (h : Ops P f N rd ops l k (E.put dst (.agg z)) D w R) : Ops P f N rd ops (⟨dst, .move x, ty, pos, aft, none⟩ :: l) k E D w R := opw wN hd (move hx) h
theorem Zdma {x : Operand} {z : Array Value} (hx : ρ x = .agg z) : Does P ⟨dst, .move x, ty, pos, aft, g⟩ ρ w (.agg z) w := move hx
theorem Zom {x : Operand} {v : Value} (hx : E.ev x = v) (hd : dstOk N dst = true) (h : Ops P f N rd ops l k (E.put dst v) D w R) : Ops P f N rd ops (⟨dst, .move x, ty, pos, aft, none⟩ :: l) k E D w R := opw wN hd (move hx) h
theorem ZdTi {c' p q : Operand} {z : Int} (hc : ρ c' = .bool true) (hx : ρ p = .int .i64 z) : Does P ⟨dst, .pick c' p q, ty, pos, aft, g⟩ ρ w (.int .i64 z) w := pickT hc hx
theorem ZdTt {c' p q : Operand}  (hc : ρ c' = .bool true) (hx : ρ p = .bool true) : Does P ⟨dst, .pick c' p q, ty, pos, aft, g⟩ ρ w (.bool true) w := pickT hc hx
theorem ZdTf {c' p q : Operand}  (hc : ρ c' = .bool true) (hx : ρ p = .bool false) : Does P ⟨dst, .pick c' p q, ty, pos, aft, g⟩ ρ w (.bool false) w := pickT hc hx
theorem ZdTs {c' p q : Operand} {A : Option Addr} {n c : Nat} (hc : ρ c' = .bool true) (hx : ρ p = .slice A n c) : Does P ⟨dst, .pick c' p q, ty, pos, aft, g⟩ ρ w (.slice A n c) w := pickT hc hx
theorem ZdTu {c' p q : Operand} {z : Int} (hc : ρ c' = .bool true) (hx : ρ p = .int .u64 z) : Does P ⟨dst, .pick c' p q, ty, pos, aft, g⟩ ρ w (.int .u64 z) w := pickT hc hx
theorem ZdTw {c' p q : Operand} {z : Int} (hc : ρ c' = .bool true) (hx : ρ p = .int .u32 z) : Does P ⟨dst, .pick c' p q, ty, pos, aft, g⟩ ρ w (.int .u32 z) w := pickT hc hx
theorem ZdTb {c' p q : Operand} {z : Int} (hc : ρ c' = .bool true) (hx : ρ p = .int .u8 z) : Does P ⟨dst, .pick c' p q, ty, pos, aft, g⟩ ρ w (.int .u8 z) w := pickT hc hx
theorem ZdTg {c' p q : Operand} {z : ByteArray} (hc : ρ c' = .bool true) (hx : ρ p = .string z) : Does P ⟨dst, .pick c' p q, ty, pos, aft, g⟩ ρ w (.string z) w := pickT hc hx
theorem ZdTo {c' p q : Operand} {z : Bool} (hc : ρ c' = .bool true) (hx : ρ p = .bool z) : Does P ⟨dst, .pick c' p q, ty, pos, aft, g⟩ ρ w (.bool z) w := pickT hc hx
theorem ZdTa {c' p q : Operand} {z : Array Value} (hc : ρ c' = .bool true) (hx : ρ p = .agg z) : Does P ⟨dst, .pick c' p q, ty, pos, aft, g⟩ ρ w (.agg z) w := pickT hc hx
theorem ZdFi {c' p q : Operand} {z : Int} (hc : ρ c' = .bool false) (hx : ρ q = .int .i64 z) : Does P ⟨dst, .pick c' p q, ty, pos, aft, g⟩ ρ w (.int .i64 z) w := pickF hc hx
theorem ZdFt {c' p q : Operand}  (hc : ρ c' = .bool false) (hx : ρ q = .bool true) : Does P ⟨dst, .pick c' p q, ty, pos, aft, g⟩ ρ w (.bool true) w := pickF hc hx
theorem ZdFf {c' p q : Operand}  (hc : ρ c' = .bool false) (hx : ρ q = .bool false) : Does P ⟨dst, .pick c' p q, ty, pos, aft, g⟩ ρ w (.bool false) w := pickF hc hx
theorem ZdFs {c' p q : Operand} {A : Option Addr} {n c : Nat} (hc : ρ c' = .bool false) (hx : ρ q = .slice A n c) : Does P ⟨dst, .pick c' p q, ty, pos, aft, g⟩ ρ w (.slice A n c) w := pickF hc hx
theorem ZdFu {c' p q : Operand} {z : Int} (hc : ρ c' = .bool false) (hx : ρ q = .int .u64 z) : Does P ⟨dst, .pick c' p q, ty, pos, aft, g⟩ ρ w (.int .u64 z) w := pickF hc hx
theorem ZdFw {c' p q : Operand} {z : Int} (hc : ρ c' = .bool false) (hx : ρ q = .int .u32 z) : Does P ⟨dst, .pick c' p q, ty, pos, aft, g⟩ ρ w (.int .u32 z) w := pickF hc hx
theorem ZdFb {c' p q : Operand} {z : Int} (hc : ρ c' = .bool false) (hx : ρ q = .int .u8 z) : Does P ⟨dst, .pick c' p q, ty, pos, aft, g⟩ ρ w (.int .u8 z) w := pickF hc hx
theorem ZdFg {c' p q : Operand} {z : ByteArray} (hc : ρ c' = .bool false) (hx : ρ q = .string z) : Does P ⟨dst, .pick c' p q, ty, pos, aft, g⟩ ρ w (.string z) w := pickF hc hx
theorem ZdFo {c' p q : Operand} {z : Bool} (hc : ρ c' = .bool false) (hx : ρ q = .bool z) : Does P ⟨dst, .pick c' p q, ty, pos, aft, g⟩ ρ w (.bool z) w := pickF hc hx
theorem ZdFa {c' p q : Operand} {z : Array Value} (hc : ρ c' = .bool false) (hx : ρ q = .agg z) : Does P ⟨dst, .pick c' p q, ty, pos, aft, g⟩ ρ w (.agg z) w := pickF hc hx
theorem Zs {a b : Code} (h : Run P f N rd (.code a :: .code b :: k) E D w R) : Run P f N rd (.code (.seq a b) :: k) E D w R := seq h
theorem Zr {id : Nat} {l : List Oper} (h : Ops P f N rd l.toArray l k E D w R) : Run P f N rd (.code (.region id l.toArray false) :: k) E D w R := region h
theorem Ze (h : Run P f N rd k E D w R) : Ops P f N rd ops [] k E D w R := opsEnd h
theorem Zk (h : Run P f N rd k E D w R) : Run P f N rd (.code .skip :: k) E D w R := skip h
theorem Zi {id : Nat} (h : Run P f N rd k E D w R) : Run P f N rd (.inBlock id :: k) E D w R := inBlock h
theorem Zb {id : Nat} {c : Code} (h : Run P f N rd (.code c :: .inBlock id :: k) E D w R) : Run P f N rd (.code (.block id c) :: k) E D w R := block h
theorem Zx {id : Nat} {k' : List Item} (hk : exitTo id k = some k') (h : Run P f N rd k' E D w R) : Run P f N rd (.code (.exit id) :: k) E D w R := exit hk h
theorem Zt {c : Operand} {a b : Code} (hc : E.ev c = .bool true) (h : Run P f N rd (.code a :: k) E D w R) : Run P f N rd (.code (.cond c a b) :: k) E D w R := condT hc h
theorem Zf {c : Operand} {a b : Code} (hc : E.ev c = .bool false) (h : Run P f N rd (.code b :: k) E D w R) : Run P f N rd (.code (.cond c a b) :: k) E D w R := condF hc h
end
section
variable {P : Program} {f : FuncId} {N : Nat} {rd : Option Nat} {k : List Item} {E : Env} {D : List Deferred} {w : World} {R : Out → World → Prop} {ops : Array Oper} {l : List Oper} {dst : Option Tmp} {ty : TypeId} {pos : String} {aft : Array Edge} {g : Option (Nat × Bool)}
/-! ### 1. Calls -/
theorem callE {ρ : Operand → Value} {G : FuncId} {xs : List Operand} {tys : Array TypeId} {vs : List Value} {R' : Value → World → Prop} (hc : Ret P G vs.toArray w R') (hG : ∀ args w, (callFunc G args).run P w = .ok (.enter G args) w) (hv : xs.map ρ = vs) (hf : ρ (.func G) = .func (.func G) #[] #[]) :
    DoesE P ⟨dst, .call ⟨.value (.func G), xs.toArray, tys⟩, ty, pos, aft, g⟩ ρ w R' := by
  refine does_enter (g := G) (args := vs.toArray) rfl ?_ (hc.call .normal)
  simp [execOp, resolve, hf, Deferred.ofValue, invoke, hG, ← hv]
theorem callVE {ρ : Operand → Value} {G : FuncId} {x : Operand} {cap : List Value} {xs : List Operand} {tys : Array TypeId} {vs : List Value} {R' : Value → World → Prop} (hx : ρ x = .func (.func G) #[] cap.toArray) (hc : Ret P G (vs ++ cap).toArray w R') (hG : ∀ args w, (callFunc G args).run P w = .ok (.enter G args) w) (hv : xs.map ρ = vs) :
    DoesE P ⟨dst, .call ⟨.value x, xs.toArray, tys⟩, ty, pos, aft, g⟩ ρ w R' := by
  refine does_enter (g := G) (args := (vs ++ cap).toArray) rfl ?_ (hc.call .normal)
  simp [execOp, resolve, hx, Deferred.ofValue, invoke, hG, ← hv]
theorem mkFunc {ρ : Operand → Value} {G : FuncId} {cap : List Operand} {vs : List Value} (hv : cap.map ρ = vs) : Does P ⟨dst, .makeFunc (.func G) #[] cap.toArray, ty, pos, aft, g⟩ ρ w (.func (.func G) #[] vs.toArray) w :=
  does_run rfl (by simp [execOp, Instr.makeFunc, ← hv])
theorem opCallO {f : FuncId} {G : FuncId} {args : Array Value} {o : Oper} {R' : Out → World → Prop} (hc : Call P G args w R') (hw : Wanted N E ops o.guard) (hd : dstOk N o.dst = true) (hp : plain o.op = true) (hr : (execOp E.ev o).run P w = .ok (.enter G args) w)
    (h : ∀ z w', R' z w' → match z with | .ret v => Ops P f N none ops l k (E.put o.dst v) D w' R | .pan ch => Unw P f N (.panicking ch) E D w' R) : Ops P f N none ops (o :: l) k E D w R := by
  intro idx hi
  cases idx with
  | nil => simp at hi
  | cons i rest =>
    simp only [List.map_cons, List.cons.injEq] at hi
    intro kind cs tmps hcs ht
    have st1 : step P (lone (Fm f none kind tmps (.inRegion ops (i :: rest) :: k) D .run) cs w) = .next (lone (Frame.enter P G args .normal) (Fm f none kind tmps (.inRegion ops (i :: rest) :: k) D .run :: cs) w) := by
      refine step_lone_go ?_
      rw [stepG_op' (fr := Fm f none kind tmps (.inRegion ops (i :: rest) :: k) D .run) rfl rfl hi.1 (hw tmps ht o rfl) hp, frame_eval, ht.eval]
      simp only [stepG.apply, Sem.runT_eq, hr, GStep.bare_after, if_true]
      rfl
    obtain ⟨z, w1, hz, fr', s1, hl⟩ := hc .normal (Fm f none kind tmps (.inRegion ops (i :: rest) :: k) D .run :: cs)
    cases z with
    | ret v =>
      obtain ⟨hm, hdf, hk, hf, fn, hfn, hres⟩ := hl
      obtain ⟨o', w', r, m, s2, hT⟩ := h _ w1 hz rest hi.2 kind cs _ hcs (ht.put' o.dst v (dstOk.lt hd))
      refine ⟨o', w', r, m, .head st1 (s1.trans (.head (step_lone_go ?_) s2)), hT⟩
      rw [← finish_region f none kind tmps ops i rest k D o hi.1]
      simp [stepG, unwind, doReturn, hm, hdf, hk, hf, hfn, hres]
    | pan ch =>
      obtain ⟨hm, hdf, hk, hf, fn, hfn⟩ := hl
      obtain ⟨o', w', r, fr, s2, hl⟩ := h _ w1 hz kind cs tmps (.inRegion ops (i :: rest) :: k) ht
      refine ⟨o', w', r, _, .head st1 (s1.trans (.head (step_lone_go ?_) s2)), fr, rfl, hl⟩
      simp [stepG, unwind, Frame.catches, hm, hdf, hf, hfn, Frame.raise]
theorem opPanic {f : FuncId} {x : Operand} {T : TypeId} {v : Value} (hw : Wanted N E ops g) (hx : E.ev x = .iface T v) (h : Unw P f N (.panicking [{ v := .iface T v, recovered := false }]) E D w R) : Ops P f N none ops (⟨dst, .panic x, ty, pos, aft, g⟩ :: l) k E D w R := by
  intro idx hi
  cases idx with
  | nil => simp at hi
  | cons i rest =>
    simp only [List.map_cons, List.cons.injEq] at hi
    intro kind cs tmps hcs ht
    obtain ⟨o', w', r, fr, s2, hl⟩ := h kind cs tmps (.inRegion ops (i :: rest) :: k) ht
    refine ⟨o', w', r, _, .head (step_lone_go ?_) s2, fr, rfl, hl⟩
    rw [stepG_op' (fr := Fm f none kind tmps (.inRegion ops (i :: rest) :: k) D .run) rfl rfl hi.1 (hw tmps ht _ rfl) rfl, frame_eval, ht.eval]
    simp [stepG.apply, execOp, hx, Instr.panic, goPanic, Sem.run, Frame.raise]
theorem mkIface {ρ : Operand → Value} {T : TypeId} {x : Operand} {v : Value} {d : TypeDesc} (hT : P.underlying T = some d) (hd : (match d with | .interface _ => false | _ => true) = true) (hx : ρ x = v) : Does P ⟨dst, .makeInterface T x, ty, pos, aft, g⟩ ρ w (.iface T v) w :=
  does_run rfl (by
    cases d <;> first | (cases hd; done) | simp [execOp, hx, Instr.makeInterface, run_underlying hT])
/-! ### 2. Slice literals; []byte(s) -/
theorem lit1E {ρ : Operand → Value} {α : Type} {K : Kd α} {lo hi : Nat} {T e : TypeId} {z : Value} {x : Operand} {v : Value} {y : α} (hT : P.underlying T = some (.slice e)) (hs : ∀ w, (sizeOf e).run P w = .ok 1 w) (hz : ∀ w, (zeroValue e).run P w = .ok z w) (hz1 : z.oneCell' = true) (hx : ρ x = v) (hy : K.R lo hi w y [v]) :
    DoesE P ⟨dst, .buildSlice T 1 #[(0, x)], ty, pos, aft, g⟩ ρ w fun v' w' => v' = .slice (some ⟨w.heap.size, 0, none⟩) 1 1 ∧ Sl K (min lo w.heap.size) (max hi (w.heap.size + 1)) w' (some ⟨w.heap.size, 0, none⟩) 1 [y] ∧ Blk w' w.heap.size [v] e ∧ Keep w w' ∧ w'.heap.size = w.heap.size + 1 := by
  have h1 := K.one hy v (by simp)
  have hv : v.cells = #[v] := by cases v <;> first | rfl | cases h1
  have hzc : z.cells = #[z] := by cases z <;> first | rfl | cases hz1
  have hsz : K.sz = 1 := by have := K.len hy; simpa using this.symm
  have hB := Blk.new w [v] e
  have hk := Keep.alloc w (.cells #[v] e)
  have hfill : Instr.fill (fun i => some (i, 1)) #[z] [(0, v)] = some #[v] := by
    simp [Instr.fill, hv]
  have hrun : (Instr.buildSlice T 1 #[(0, v)]).run P w = .ok (.slice (some ⟨w.heap.size, 0, none⟩) 1 1) (w.alloc (.cells #[v] e)) := by
    have hr : (Array.range 1).map (fun x => [z][x % 1]?.getD default) = #[z] := by
      have h0 : Array.range 0 = #[] := rfl
      simp [Array.range_succ, h0]
    simp [Instr.buildSlice, run_underlying hT, hs, hz, hzc, newRow, hr, hfill]
  refine (does_run (w' := w.alloc (.cells #[v] e)) rfl (by simp [execOp, hx, hrun])).e ⟨rfl, ?_, hB, hk, by simp⟩
  refine ⟨rfl, by omega, fun _ => ⟨_, rfl, by simp only []; omega, by simp only []; omega, fun j x hx => ?_⟩⟩
  match j, hx with
  | 0, hx =>
    simp at hx
    subst hx
    refine ⟨[v], K.wide (K.move hy (hk.stand fun _ _ _ => id)) Zz Zz, fun i u hu => ?_⟩
    match i, hu with
    | 0, hu =>
      simp at hu
      subst hu
      rw [add_mk, hB.cell]
      simp
theorem bytesE {ρ : Operand → Value} {S T e : TypeId} {d : TypeDesc} {x : Operand} {s : ByteArray} {K : Kd UInt8} (hS : P.underlying S = some d) (hT : P.underlying T = some (.slice e)) (he : P.underlying e = some (.int .u8)) (hx : ρ x = .string s) (hsz : s.size ≤ 9223372036854775807) (hK : K.sz = 1) (hR : ∀ lo hi w (y : UInt8), K.R lo hi w y [.int .u8 (y.toNat : Int)]) :
    DoesE P ⟨dst, .convert S T x, ty, pos, aft, g⟩ ρ w fun v w' => ∃ c, v = .slice (some ⟨w.heap.size, 0, none⟩) s.size c ∧ s.size ≤ c ∧ Sl K w.heap.size (w.heap.size + 1) w' (some ⟨w.heap.size, 0, none⟩) s.size s.data.toList ∧ Keep w w' ∧ w'.heap.size = w.heap.size + 1 := by
  have hr := Lib.run_convert_string_bytes (P := P) w S T e s hS hT he
  refine (does_run (w' := Lib.bytesWorld w e s) rfl (by simp [execOp, hx, hr])).e ⟨_, rfl, grownCap_ge w s.size 0 e, ?_, ⟨rfl, rfl, rfl, by rw [Lib.bytesWorld_size]; omega, fun k hk _ => Lib.bytesWorld_at_old w e s k hk⟩, Lib.bytesWorld_size w e s⟩
  refine ⟨by rw [Array.length_toList]; rfl, hsz, fun _ => ⟨_, rfl, Nat.le_refl _, Nat.lt_succ_self _, fun j y hy => ⟨[.int .u8 (y.toNat : Int)], hR _ _ _ y, fun i u hu => ?_⟩⟩⟩
  have hj : j < s.size := by
    have := (List.getElem?_eq_some_iff.1 hy).1
    rw [Array.length_toList] at this
    exact this
  match i, hu with
  | 0, hu =>
    simp only [List.getElem?_cons_zero, Option.some.injEq] at hu
    subst hu
    rw [add_mk, hK, Nat.zero_add, Nat.mul_one, Nat.add_zero, Lib.bytesWorld_cell w e s j hj, List.getD_eq_getElem?_getD, hy]
    rfl
end
def Flat {α : Type} (K : Kd α) : Prop := ∀ {lo hi lo' hi' w w' x cs}, K.R lo hi w x cs → K.R lo' hi' w' x cs
theorem Reps.flat {α : Type} {K : Kd α} (hF : Flat K) {lo hi lo' hi' : Nat} {w w' : World} : ∀ {xs : List α} {cs : List Value}, Reps K lo hi w xs cs → Reps K lo' hi' w' xs cs
  | [], _, h => h
  | _ :: _, _, ⟨a, b, e, h1, h2⟩ => ⟨a, b, e, hF h1, Reps.flat hF h2⟩
def KB : Kd UInt8 := Kd.plain 1 (fun c => [.int .u8 (c.toNat : Int)]) (fun _ => True) (fun _ => rfl) (fun _ u hu => by simp at hu; subst hu; rfl)
theorem KB_flat : Flat KB := fun h => h
theorem KB_R (lo hi : Nat) (w : World) (y : UInt8) : KB.R lo hi w y [.int .u8 (y.toNat : Int)] := ⟨rfl, trivial⟩
theorem KB_is {lo hi : Nat} {w : World} (y : UInt8) (cs : List Value) (h : KB.R lo hi w y cs) : cs = [.int .u8 (y.toNat : Int)] := h.1
def KI : Kd Int := Kd.plain 1 (fun c => [.int .i64 c]) (fun n => -9223372036854775808 ≤ n ∧ n ≤ 9223372036854775807) (fun _ => rfl) (fun _ u hu => by simp at hu; subst hu; rfl)
theorem KI_flat : Flat KI := fun h => h
def Mine {α : Type} (K : Kd α) (e : TypeId) (S : Nat → Prop) (lo hi : Nat) (w : World) (v : Value) (xs : List α) : Prop := ∃ b, Own K e b lo hi w v xs ∧ ∀ k, b = some k → S k
section
variable {α : Type} {K : Kd α} {e : TypeId} {S T : Nat → Prop} {lo hi : Nat} {w w' : World} {v : Value} {xs : List α}
theorem Mine.nil (K : Kd α) (e : TypeId) (S : Nat → Prop) (lo hi : Nat) (w : World) : Mine K e S lo hi w (.slice none 0 0) [] := ⟨none, Own.nil K e lo hi w, fun _ h => by cases h⟩
theorem Mine.slice (h : Mine K e S lo hi w v xs) : ∃ A c, v = .slice A xs.length c ∧ xs.length ≤ c ∧ xs.length ≤ 9223372036854775807 := let ⟨_, h, _⟩ := h; h.slice
theorem Mine.ext (h : Mine K e S lo hi w v xs) (x : Ext T w w') (hT : ∀ k, lo ≤ k → k < hi → ¬ T k) (hS : ∀ k, S k → ¬ T k) : Mine K e S lo hi w' v xs := let ⟨b, h, hb⟩ := h; ⟨b, h.ext x hT (fun k hk => hS k (hb k hk)), hb⟩
theorem Mine.keep (h : Mine K e S lo hi w v xs) (x : Keep w w') : Mine K e S lo hi w' v xs := let ⟨b, h, hb⟩ := h; ⟨b, h.keep x, hb⟩
theorem Mine.mono (h : Mine K e S lo hi w v xs) (hS : ∀ k, k < w.heap.size → S k → T k) : Mine K e T lo hi w v xs := let ⟨b, h, hb⟩ := h; ⟨b, h, fun k hk => hS k (h.lt k hk) (hb k hk)⟩
theorem Mine.wide (h : Mine K e S lo hi w v xs) {lo' hi' : Nat} (hl : lo' ≤ lo) (hh : hi ≤ hi') : Mine K e S lo' hi' w v xs := let ⟨b, h, hb⟩ := h; ⟨b, h.wide hl hh, hb⟩
theorem Mine.sl (h : Mine K e S lo hi w v xs) (hS : ∀ k, k < w.heap.size → S k → lo ≤ k ∧ k < hi) : ∃ A c, v = .slice A xs.length c ∧ xs.length ≤ c ∧ Sl K lo hi w A xs.length xs := let ⟨_, h, hb⟩ := h; h.sl fun k hk => hS k (h.lt k hk) (hb k hk)
theorem Own.flat (hF : Flat K) {b : Option Nat} {lo' hi' : Nat} (h : Own K e b lo hi w v xs) : Own K e b lo' hi' w v xs := let ⟨⟨cs, hr, ho⟩, hb⟩ := h; ⟨⟨cs, hr.flat hF, ho⟩, hb⟩
theorem Mine.flat (hF : Flat K) {lo' hi' : Nat} (h : Mine K e S lo hi w v xs) : Mine K e S lo' hi' w v xs := let ⟨b, h, hb⟩ := h; ⟨b, h.flat hF, hb⟩
theorem Mine.slF (hF : Flat K) (h : Mine K e S lo hi w v xs) (lo' : Nat) (hS : ∀ k, S k → lo' ≤ k) : ∃ A c, v = .slice A xs.length c ∧ xs.length ≤ c ∧ Sl K lo' w.heap.size w A xs.length xs := (h.flat hF (lo' := lo') (hi' := w.heap.size)).sl fun k hk hs => ⟨hS k hs, hk⟩
end
section
variable {P : Program} {f : FuncId} {N : Nat} {rd : Option Nat} {k : List Item} {E : Env} {D : List Deferred} {w : World} {R : Out → World → Prop} {ops : Array Oper} {l : List Oper} {dst : Option Tmp} {ty : TypeId} {pos : String} {aft : Array Edge} {g : Option (Nat × Bool)}
structure ElemInfo (P : Program) (e sz bytes : Nat) : Prop where
  ex : ∃ i z, P.info? e = some i ∧ i.zero = some z ∧ i.size = sz ∧ i.bytes = bytes ∧ z.cells.size = sz
  pos : 0 < sz
  bpos : 0 < bytes
theorem ElemInfo.of {P : Program} {e sz bytes : Nat} {z : Value} (h : (P.info? e).map (fun i => (i.zero, i.size, i.bytes)) = some (some z, sz, bytes)) (hz : z.cells.size = sz) (h0 : Nat.blt 0 sz = true) (h1 : Nat.blt 0 bytes = true) : ElemInfo P e sz bytes := by
  obtain ⟨i, hi, hq⟩ := Option.map_eq_some_iff.1 h
  simp only [Prod.mk.injEq] at hq
  exact ⟨⟨i, z, hi, hq.1, hq.2.1, hq.2.2, hz⟩, blt_lt h0, blt_lt h1⟩
theorem appE {ρ : Operand → Value} {α : Type} {K : Kd α} {e T : TypeId} {bytes : Nat} {S : Nat → Prop} {lo' hi' : Nat} {s x : Operand} {v : Value} {xs ys : List α} {A : Option Addr} {m c : Nat} (hF : Flat K) (hT : P.underlying T = some (.slice e)) (hI : ElemInfo P e K.sz bytes)
    (hs : ρ s = v) (hx : ρ x = .slice A m c) (hO : Mine K e S 0 0 w v xs) (hS : Sl K lo' hi' w A m ys) (hmax : (xs.length + ys.length) * bytes ≤ 140737488355328) (hfr : ∀ k, w.heap.size ≤ k → S k) :
    DoesE P ⟨dst, .call ⟨.builtin .append, #[s, x], #[T, T]⟩, ty, pos, aft, g⟩ ρ w fun v' w' => Mine K e S 0 0 w' v' (xs ++ ys) ∧ Ext S w w' := by
  obtain ⟨⟨i, z, h1, h2, h3, h4, h5⟩, h6, h7⟩ := hI
  obtain ⟨b, ho, hb⟩ := hO
  obtain ⟨⟨cs, hr, hrow⟩, hbb⟩ := ho
  obtain ⟨ds, hr', hcells⟩ := hS.reps
  have hlen : xs.length + ys.length ≤ 140737488355328 := Nat.le_trans (Nat.le_mul_of_pos_right _ h7) hmax
  have hm : ys.length = m := hS.len
  have key : ∃ v1 w1, (Builtin.append_ #[T, T] ty #[v, .slice A m c]).run P w = .ok v1 w1 ∧ w1.ownsRow 0 e K.sz v1 (xs.length + m) (cs ++ ds) ∧ w.grownBy w1 v.ownBlock ∧ (v1.ownBlock = v.ownBlock ∨ v1.ownBlock = some w.heap.size) := by
    cases A with
    | none =>
      have hm0 : m = 0 := by
        rcases Nat.eq_zero_or_pos m with h | h
        · exact h
        · obtain ⟨ad, e', _⟩ := hS.at_ h
          cases e'
      subst hm0
      have hy : ys = [] := List.eq_nil_of_length_eq_zero hm
      subst hy
      have hds : ds = [] := hr'
      subst hds
      refine ⟨v, w, ?_, by simpa using hrow, World.grownBy.refl w _, .inl rfl⟩
      rcases hrow.2 with ⟨rfl, hn⟩ | ⟨g', cap, cur, rfl, _, _, hnc, _⟩
      · simp [Builtin.append_, run_underlying hT, sizeOf, typeInfo, h1, Builtin.lenOf, Builtin.firstCells]
      · simp [Builtin.append_, run_underlying hT, sizeOf, typeInfo, h1, Builtin.lenOf, Builtin.firstCells, hnc, storeCells]
    | some ad =>
      obtain ⟨v1, w1, q1, q2, q3, _, q5⟩ := run_append_own_at (P := P) (w := w) 0 T ty e i z K.sz bytes hT h1 h2 h3 h4 h5 h6 v xs.length cs hrow ad m c ds (by rw [hr'.length, hm]) (hcells ad rfl) hr'.one (by simp only [maxLen]; omega) (by rw [← hm]; exact hmax) (Nat.zero_le _)
      exact ⟨v1, w1, q1, q2, q3, q5⟩
  obtain ⟨v1, w1, hrun, hown, hg, hat⟩ := key
  have hext : Ext S w w1 := (Ext.of_grown hg).mono fun k _ hk => hb k (by rw [← hbb]; exact hk)
  refine (does_run (w' := w1) rfl (by simp only [execOp, resolve, invoke, builtin, List.map_toArray, List.map_cons, List.map_nil, hs, hx]; simp [hrun])).e ⟨⟨v1.ownBlock, ⟨⟨cs ++ ds, ?_, by rw [List.length_append, hm]; exact hown⟩, rfl⟩, ?_⟩, hext⟩
  · exact Reps.app (hr.flat hF) (hr'.flat hF)
  · intro k hk
    rcases hat with hat | hat
    · exact hb k (by rw [← hbb, ← hat]; exact hk)
    · rw [hat] at hk
      cases hk
      exact hfr _ (Nat.le_refl _)
end
end Go.Proofs.YtjjhddjllpihaaaGreatDoor.X
