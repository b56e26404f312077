/- Texts that the proof of CacheSame stands on, part 6. -/
import Derived.Great.FillDense
import Derived.Laws.Tables
import Derived.Laws.Cover3
import Derived.Test.YtjjhddjllpihaaaGreatDoorBunCacheSame5
set_option maxHeartbeats 4000000
set_option maxRecDepth 100000
set_option linter.unusedSimpArgs false
namespace Go.Proofs.YtjjhddjllpihaaaGreatDoor.X
open Go
section
variable {P : Program} {ρ : Operand → Value} {w : World} {dst : Option Tmp} {ty : TypeId} {pos : String} {aft : Array Edge} {g : Option (Nat × Bool)}
theorem loadSf {α : Type} {K : Kd α} {lo hi : Nat} {T : TypeId} {x : Operand} {A : Option Addr} {n j o : Nat} {xs : List α} {y : α} {v : Value} (hT : ∀ w, (isAgg T).run P w = .ok false w) (hS : Sl K lo hi w A n xs) (hy : xs[j]? = some y) (hx : ρ x = .pointer (some (((A.getD default).add (j * K.sz)).add o))) (hv : ∀ cs, K.R lo hi w y cs → cs[o]? = some v) :
    Does P ⟨dst, .load T x, ty, pos, aft, g⟩ ρ w v w := by
  obtain ⟨ad, cs, e, hr, hq⟩ := hS.get j y hy
  subst e
  exact load1 hT hx (by rw [add_add]; exact hq o v (hv cs hr))
theorem fldA {S : TypeId} {fields : Array Field} {fd : Field} {x : Operand} {ad : Addr} {i n : Nat} (hS : P.underlying S = some (.struct fields)) (hf : fields[i]? = some fd) (hx : ρ x = .pointer (some ad)) (hn : ∀ w, (sizeOf fd.type).run P w = .ok (n + 1) w) :
    Does P ⟨dst, .fieldAddr S x i, ty, pos, aft, g⟩ ρ w (.pointer (some (ad.add fd.offset))) w :=
  fldAddr (ad := ad) hS hf hx (fun w => by simp [fieldPlace, hn])
end
section
variable {α : Type} {K : Kd α} {e : TypeId} {S : Nat → Prop} {lo hi : Nat} {w : World} {xs : List α}
theorem Mine.lit {b n : Nat} {cs : List Value} (hB : Blk w b cs e) (hr : Reps K lo hi w xs cs) (hn : xs.length = n) (hm : n ≤ 1000000) (hS : S b) : Mine K e S lo hi w (.slice (some ⟨b, 0, none⟩) n n) xs := by
  subst hn
  have hl := hr.length
  refine ⟨some b, ⟨⟨cs, hr, hl, .inr ⟨b, xs.length, cs.toArray, rfl, Nat.zero_le _, hB, Nat.le_refl _, by simp only [maxLen]; omega, by simpa using hl, ?_⟩⟩, rfl⟩, fun k hk => by cases hk; exact hS⟩
  rw [← hl]
  simp
theorem Mine.litB {b : Nat} {y : UInt8} (hB : Blk w b [.int .u8 (y.toNat : Int)] e) (hS : S b) : Mine KB e S 0 0 w (.slice (some ⟨b, 0, none⟩) 1 1) [y] :=
  Mine.lit hB (Reps.single (KB_R 0 0 w y)) rfl Zz hS
end
section
variable {P : Program} {ρ : Operand → Value} {w : World} {dst : Option Tmp} {ty : TypeId} {pos : String} {aft : Array Edge} {g : Option (Nat × Bool)}
theorem lit0E {α : Type} {K : Kd α} {T e : TypeId} {S : Nat → Prop} (hT : P.underlying T = some (.slice e)) (hs : ∀ w, (sizeOf e).run P w = .ok K.sz w) (hS : S w.heap.size) :
    DoesE P ⟨dst, .buildSlice T 0 #[], ty, pos, aft, g⟩ ρ w fun v' w' => Mine K e S 0 0 w' v' [] ∧ Keep w w' ∧ w'.heap.size = w.heap.size + 1 := by
  have hrun : (Instr.buildSlice T 0 #[]).run P w = .ok (.slice (some ⟨w.heap.size, 0, none⟩) 0 0) (w.alloc (.cells #[] e)) := by
    have h0 : Array.range 0 = #[] := rfl
    simp [Instr.buildSlice, run_underlying hT, hs, newRow, h0, Instr.fill]
  refine (does_run (v := .slice (some ⟨w.heap.size, 0, none⟩) 0 0) (w' := w.alloc (.cells #[] e)) rfl (by simp [execOp, hrun])).e ⟨?_, Keep.alloc w _, by simp⟩
  exact Mine.lit (cs := []) (Blk.new w [] e) rfl rfl Zz hS
theorem lit1B {T e : TypeId} {x : Operand} {y : UInt8} (hT : P.underlying T = some (.slice e)) (hs : ∀ w, (sizeOf e).run P w = .ok 1 w) (hz : ∀ w, (zeroValue e).run P w = .ok (.int .u8 0) w) (hx : ρ x = .int .u8 (y.toNat : Int)) :
    DoesE P ⟨dst, .buildSlice T 1 #[(0, x)], ty, pos, aft, g⟩ ρ w fun v' w' => v' = .slice (some ⟨w.heap.size, 0, none⟩) 1 1 ∧ Sl KB 0 w'.heap.size w' (some ⟨w.heap.size, 0, none⟩) 1 [y] ∧ Blk w' w.heap.size [.int .u8 (y.toNat : Int)] e ∧ Keep w w' ∧ w'.heap.size = w.heap.size + 1 :=
  (lit1E (K := KB) (lo := 0) (hi := 0) hT hs hz rfl hx (KB_R 0 0 w y)).mono fun v' w' ⟨h1, h2, h3, h4, h5⟩ => ⟨h1, h2.wide (Nat.zero_le _) Zz, h3, h4, h5⟩
theorem lit2B {T e : TypeId} {a b : Nat × Operand} {x y : UInt8} (hT : P.underlying T = some (.slice e)) (hs : ∀ w, (sizeOf e).run P w = .ok 1 w) (hz : ∀ w, (zeroValue e).run P w = .ok (.int .u8 0) w) (ha : a.1 = 0 ∧ ρ a.2 = .int .u8 (x.toNat : Int)) (hb : b.1 = 1 ∧ ρ b.2 = .int .u8 (y.toNat : Int)) :
    DoesE P ⟨dst, .buildSlice T 2 #[a, b], ty, pos, aft, g⟩ ρ w fun v' w' => v' = .slice (some ⟨w.heap.size, 0, none⟩) 2 2 ∧ Sl KB 0 w'.heap.size w' (some ⟨w.heap.size, 0, none⟩) 2 [x, y] ∧ Blk w' w.heap.size [.int .u8 (x.toNat : Int), .int .u8 (y.toNat : Int)] e ∧ Keep w w' ∧ w'.heap.size = w.heap.size + 1 := by
  obtain ⟨i, a⟩ := a
  obtain ⟨j, b⟩ := b
  obtain ⟨rfl, ha⟩ := ha
  obtain ⟨rfl, hb⟩ := hb
  refine (litNE (n := 2) (K := KB) (lo := 0) (hi := 0) (cs := [.int .u8 (x.toNat : Int), .int .u8 (y.toNat : Int)]) (ys := [x, y]) hT hs hz (by decide) (by decide) ?_ ⟨_, _, rfl, KB_R 0 0 w x, Reps.single (KB_R 0 0 w y)⟩ rfl).mono fun v' w' ⟨h1, h2, h3, h4, h5⟩ => ⟨h1, h2.wide (Nat.zero_le _) Zz, h3, h4, h5⟩
  have hr : Array.range (2 * KB.sz) = #[0, 1] := by decide
  rw [hr]
  simp only [List.map_toArray, List.map_cons, List.map_nil]
  simp [Instr.fill, Value.cells, KB, Kd.plain]
  rw [ha, hb]
  simp
end
def RepsV {α : Type} (K : Kd α) (w : World) : List α → List Value → Prop
  | [], [] => True
  | y :: ys, v :: vs => (∃ cs, v.cells = cs.toArray ∧ K.R 0 0 w y cs) ∧ RepsV K w ys vs
  | _, _ => False
theorem RepsV.reps {α : Type} {K : Kd α} {w : World} : ∀ {ys : List α} {vs : List Value}, RepsV K w ys vs → Reps K 0 0 w ys (vs.flatMap fun v => v.cells.toList) ∧ ys.length = vs.length ∧ ∀ v ∈ vs, v.cells.size = K.sz
  | [], [], _ => ⟨rfl, rfl, fun _ h => by cases h⟩
  | y :: ys, v :: vs, ⟨⟨cs, h1, h2⟩, h3⟩ => by
    obtain ⟨q1, q2, q3⟩ := RepsV.reps h3
    refine ⟨⟨cs, _, by rw [List.flatMap_cons, h1], h2, q1⟩, by simp [q2], fun u hu => ?_⟩
    rcases List.mem_cons.1 hu with rfl | hu
    · rw [h1, ← K.len h2]; simp
    · exact q3 u hu
  | [], _ :: _, h => h.elim
  | _ :: _, [], h => h.elim
section
variable {P : Program} {ρ : Operand → Value} {w : World} {dst : Option Tmp} {ty : TypeId} {pos : String} {aft : Array Edge} {g : Option (Nat × Bool)}
theorem litKE {α : Type} {K : Kd α} {T e : TypeId} {n : Nat} {z : Value} {ps : Array (Nat × Operand)} {xs : List Operand} {vs : List Value} {ys : List α} (hT : P.underlying T = some (.slice e)) (hs : ∀ w, (sizeOf e).run P w = .ok K.sz w) (hz : ∀ w, (zeroValue e).run P w = .ok z w)
    (h24 : Nat.ble (n * K.sz) 16777216 = true) (h0 : Nat.blt 0 (n * K.sz) = true) (hps : ps.toList = (xs.zipIdx 0).map fun x => (x.2, x.1)) (hn : xs.length = n) (hv : xs.map ρ = vs) (hr : RepsV K w ys vs) :
    DoesE P ⟨dst, .buildSlice T n ps, ty, pos, aft, g⟩ ρ w fun v' w' => v' = .slice (some ⟨w.heap.size, 0, none⟩) n n ∧ Sl K 0 w'.heap.size w' (some ⟨w.heap.size, 0, none⟩) n ys ∧ Blk w' w.heap.size (vs.flatMap fun v => v.cells.toList) e ∧ Keep w w' ∧ w'.heap.size = w.heap.size + 1 := by
  obtain ⟨q1, q2, q3⟩ := hr.reps
  have hvl : vs.length = n := by rw [← hv, List.length_map, hn]
  have h0' := blt_lt h0
  have hp : 0 < K.sz := Nat.pos_of_ne_zero fun e => by rw [e] at h0'; omega
  have e1 : (ps.map fun (i, x) => (i, ρ x)).toList = (vs.zipIdx 0).map fun x => (x.2, x.1) := by
    rw [Array.toList_map, hps, ← hv, List.zipIdx_map, List.map_map, List.map_map]
    rfl
  refine (litNE (K := K) (lo := 0) (hi := 0) (cs := vs.flatMap fun v => v.cells.toList) (ys := ys) hT hs hz (Nat.le_of_ble_eq_true h24) h0' ?_ q1 Zz).mono fun v' w' ⟨h1, h2, h3, h4, h5⟩ => ⟨h1, h2.wide (Nat.zero_le _) Zz, h3, h4, h5⟩
  rw [e1]
  exact Great.fill_whole hp vs _ q3 (by simp [hvl])
theorem buildB {T : TypeId} {ps : Array (Nat × Operand)} {vs : List (Nat × Value)} {cs : Array Value} (hv : (ps.toList.map fun x => (x.1, ρ x.2)) = vs) (h : P.built T vs = some cs) : Does P ⟨dst, .build T ps, ty, pos, aft, g⟩ ρ w (.agg cs) w :=
  build (fun w => by
    have e : (ps.map fun (i, x) => (i, ρ x)) = vs.toArray := by
      rw [← hv]
      apply Array.toList_inj.1
      rw [Array.toList_map]
    rw [e]
    exact run_build w T vs.toArray cs h)
end
section
variable {α : Type} {K : Kd α} {e : TypeId} {S : Nat → Prop} {w : World}
theorem Mine.litV {b n : Nat} {ys : List α} {vs : List Value} (hF : Flat K) {w0 : World} (hB : Blk w b (vs.flatMap fun v => v.cells.toList) e) (hr : RepsV K w0 ys vs) (hn : ys.length = n) (hm : n ≤ 1000000) (hS : S b) : Mine K e S 0 0 w (.slice (some ⟨b, 0, none⟩) n n) ys :=
  Mine.lit hB (hr.reps.1.flat hF) hn hm hS
end
section
variable {P : Program} {ρ : Operand → Value} {w : World} {dst : Option Tmp} {ty : TypeId} {pos : String} {aft : Array Edge} {g : Option (Nat × Bool)}
theorem eqNil {T e T' : TypeId} {x y : Operand} {A : Option Addr} {n c : Nat} (hT : P.underlying T = some (.slice e)) (hx : ρ x = .slice A n c) (hy : ρ y = .slice none 0 0) : Does P ⟨dst, .binOp .eql T x y T', ty, pos, aft, g⟩ ρ w (.bool A.isNone) w :=
  does_run rfl (by
    have h1 := run_equal_slice_nil (P := P) w T e A n c hT
    simp only [execOp, hx, hy, binOp, eqGuard]
    simp [h1])
end
end Go.Proofs.YtjjhddjllpihaaaGreatDoor.X
