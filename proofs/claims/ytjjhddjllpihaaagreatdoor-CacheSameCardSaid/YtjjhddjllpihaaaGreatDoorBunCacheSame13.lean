/- Texts that the proof of CacheSame stands on, part 13. -/
import Derived.Lib.Overlaps
import Derived.Test.YtjjhddjllpihaaaGreatDoorProg
import Derived.Test.YtjjhddjllpihaaaGreatDoorBunCacheSame12
set_option maxHeartbeats 4000000
set_option maxRecDepth 100000
open Go.Proofs.Tryz renaming call51 → Zc51, call52 → Zc52, call68 → Zc68, call71 → Zc71, call73 → Zc73, func121 → Zf121, func32 → Zf32, func33 → Zf33, func34 → Zf34, func35 → Zf35, func36 → Zf36, func6 → Zf6, func68 → Zf68, func69 → Zf69, func71 → Zf71, func74 → Zf74, isAgg3 → Zi3, isAgg75 → Zi75, isAgg76 → Zi76, isAgg81 → Zi81, isAgg9 → Zi9, results121 → Zr121, results32 → Zr32, results33 → Zr33, results34 → Zr34, results36 → Zr36, results6 → Zr6, sizeOf162 → Zs162, sizeOf165 → Zs165, sizeOf3 → Zs3, sizeOf5 → Zs5, sizeOf75 → Zs75, sizeOf76 → Zs76, sizeOf78 → Zs78, sizeOf81 → Zs81, sizeOf9 → Zs9, underlying136 → Zu136, underlying162 → Zu162, underlying165 → Zu165, underlying3 → Zu3, underlying75 → Zu75, underlying76 → Zu76, underlying77 → Zu77, underlying78 → Zu78, underlying80 → Zu80, underlying81 → Zu81, underlying9 → Zu9, zeroValue3 → Zv3
set_option linter.unusedSectionVars false
set_option linter.unusedSimpArgs false
set_option linter.unusedVariables false
namespace Go.Proofs.YtjjhddjllpihaaaGreatDoor.X
open Go
/-! ### cells by elements -/
def Chk (sz : Nat) (ch : List (List Value)) : Prop := ∀ c, c ∈ ch → c.length = sz
section
variable {sz : Nat} {ch : List (List Value)}
theorem Chk.len : ∀ {ch : List (List Value)}, Chk sz ch → ch.flatten.length = ch.length * sz
  | [], _ => by simp
  | c :: ch, h => by rw [List.flatten_cons, List.length_append, h c List.mem_cons_self, Chk.len (fun d hd => h d (List.mem_cons_of_mem _ hd)), List.length_cons, Nat.add_mul]; omega
theorem Chk.take (h : Chk sz ch) (n : Nat) : Chk sz (ch.take n) := fun c hc => h c (List.mem_of_mem_take hc)
theorem Chk.drop (h : Chk sz ch) (n : Nat) : Chk sz (ch.drop n) := fun c hc => h c (List.mem_of_mem_drop hc)
theorem Chk.app {a b : List (List Value)} (ha : Chk sz a) (hb : Chk sz b) : Chk sz (a ++ b) := fun c hc => (List.mem_append.1 hc).elim (ha c) (hb c)
theorem Chk.take_f : ∀ {ch : List (List Value)} (n : Nat), Chk sz ch → n ≤ ch.length → ch.flatten.take (n * sz) = (ch.take n).flatten
  | _, 0, _, _ => by simp
  | [], n + 1, _, h => by simp at h
  | c :: ch, n + 1, h, hl => by
    have hc := h c List.mem_cons_self
    rw [List.flatten_cons, List.take_succ_cons, List.flatten_cons, List.take_append, List.take_of_length_le (by rw [hc, Nat.add_mul]; omega), hc, show (n + 1) * sz - sz = n * sz by rw [Nat.add_mul]; omega, Chk.take_f n (fun d hd => h d (List.mem_cons_of_mem _ hd)) (by simpa using hl)]
theorem Chk.drop_f : ∀ {ch : List (List Value)} (n : Nat), Chk sz ch → n ≤ ch.length → ch.flatten.drop (n * sz) = (ch.drop n).flatten
  | _, 0, _, _ => by simp
  | [], n + 1, _, h => by simp at h
  | c :: ch, n + 1, h, hl => by
    have hc := h c List.mem_cons_self
    rw [List.flatten_cons, List.drop_succ_cons, List.drop_append, List.drop_of_length_le (by rw [hc, Nat.add_mul]; omega), hc, show (n + 1) * sz - sz = n * sz by rw [Nat.add_mul]; omega, Chk.drop_f n (fun d hd => h d (List.mem_cons_of_mem _ hd)) (by simpa using hl), List.nil_append]
theorem chunks (sz : Nat) : ∀ (c : Nat) (l : List Value), l.length = c * sz → ∃ ch, Chk sz ch ∧ ch.length = c ∧ ch.flatten = l
  | 0, l, h => ⟨[], fun c h => by simp at h, rfl, by have : l = [] := List.eq_nil_of_length_eq_zero Zz; rw [this]; rfl⟩
  | c + 1, l, h => by
    rw [Nat.add_mul] at h
    obtain ⟨ch, h1, h2, h3⟩ := chunks sz c (l.drop sz) (by rw [List.length_drop]; omega)
    refine ⟨l.take sz :: ch, fun d hd => ?_, by simp [h2], by rw [List.flatten_cons, h3, List.take_append_drop]⟩
    rcases List.mem_cons.1 hd with rfl | hd
    · rw [List.length_take]; omega
    · exact h1 d hd
end
def RepC {α : Type} (K : Kd α) (lo hi : Nat) (w : World) : List α → List (List Value) → Prop
  | [], [] => True
  | x :: xs, c :: ch => K.R lo hi w x c ∧ RepC K lo hi w xs ch
  | _, _ => False
section
variable {α : Type} {K : Kd α} {lo hi : Nat} {w : World}
theorem RepC.len : ∀ {xs : List α} {ch : List (List Value)}, RepC K lo hi w xs ch → xs.length = ch.length
  | [], [], _ => rfl
  | _ :: _, _ :: _, h => by simp [RepC.len h.2]
  | [], _ :: _, h => h.elim
  | _ :: _, [], h => h.elim
theorem RepC.chk : ∀ {xs : List α} {ch : List (List Value)}, RepC K lo hi w xs ch → Chk K.sz ch
  | [], [], _ => fun c h => by simp at h
  | x :: xs, c :: ch, h => fun d hd => by
    rcases List.mem_cons.1 hd with rfl | hd
    · exact K.len h.1
    · exact RepC.chk h.2 d hd
  | [], _ :: _, h => h.elim
  | _ :: _, [], h => h.elim
theorem RepC.one : ∀ {xs : List α} {ch : List (List Value)}, RepC K lo hi w xs ch → ∀ u, u ∈ ch.flatten → u.oneCell' = true
  | [], [], _, u, h => by simp at h
  | x :: xs, c :: ch, h, u, hu => by
    rw [List.flatten_cons] at hu
    rcases List.mem_append.1 hu with hu | hu
    · exact K.one h.1 u hu
    · exact RepC.one h.2 u hu
  | [], _ :: _, h, _, _ => h.elim
  | _ :: _, [], h, _, _ => h.elim
theorem RepC.reps : ∀ {xs : List α} {ch : List (List Value)}, RepC K lo hi w xs ch → Reps K lo hi w xs ch.flatten
  | [], [], _ => rfl
  | x :: xs, c :: ch, h => ⟨c, ch.flatten, List.flatten_cons, h.1, RepC.reps h.2⟩
  | [], _ :: _, h => h.elim
  | _ :: _, [], h => h.elim
theorem RepC.flat (hF : Flat K) {lo' hi' : Nat} {w' : World} : ∀ {xs : List α} {ch : List (List Value)}, RepC K lo hi w xs ch → RepC K lo' hi' w' xs ch
  | [], [], _ => trivial
  | _ :: _, _ :: _, h => ⟨hF h.1, RepC.flat hF h.2⟩
  | [], _ :: _, h => h.elim
  | _ :: _, [], h => h.elim
theorem RepC.app : ∀ {xs ys : List α} {a b : List (List Value)}, RepC K lo hi w xs a → RepC K lo hi w ys b → RepC K lo hi w (xs ++ ys) (a ++ b)
  | [], _, [], _, _, h => h
  | _ :: _, _, _ :: _, _, h, h' => ⟨h.1, RepC.app h.2 h'⟩
  | [], _, _ :: _, _, h, _ => h.elim
  | _ :: _, _, [], _, h, _ => h.elim
theorem RepC.takeC : ∀ {xs : List α} {ch : List (List Value)} (n : Nat), RepC K lo hi w xs ch → RepC K lo hi w (xs.take n) (ch.take n)
  | _, _, 0, _ => by simp; trivial
  | [], [], _ + 1, _ => trivial
  | _ :: _, _ :: _, n + 1, h => ⟨h.1, RepC.takeC n h.2⟩
  | [], _ :: _, _ + 1, h => h.elim
  | _ :: _, [], _ + 1, h => h.elim
theorem RepC.dropC : ∀ {xs : List α} {ch : List (List Value)} (n : Nat), RepC K lo hi w xs ch → RepC K lo hi w (xs.drop n) (ch.drop n)
  | _, _, 0, h => h
  | [], [], _ + 1, _ => trivial
  | _ :: _, _ :: _, n + 1, h => RepC.dropC n h.2
  | [], _ :: _, _ + 1, h => h.elim
  | _ :: _, [], _ + 1, h => h.elim
theorem Reps.repC : ∀ {xs : List α} {cs : List Value}, Reps K lo hi w xs cs → ∃ ch, RepC K lo hi w xs ch ∧ ch.flatten = cs
  | [], cs, h => ⟨[], trivial, by rw [show cs = [] from h]; rfl⟩
  | x :: xs, cs, ⟨a, b, e, h1, h2⟩ => by
    obtain ⟨ch, g1, g2⟩ := Reps.repC h2
    exact ⟨a :: ch, ⟨h1, g1⟩, by rw [List.flatten_cons, g2, e]⟩
end
theorem chk_eq {sz : Nat} (h0 : 0 < sz) : ∀ {a b : List (List Value)}, Chk sz a → Chk sz b → a.flatten = b.flatten → a = b
  | [], [], _, _, _ => rfl
  | [], c :: b, _, hb, h => by
    have := congrArg List.length h
    have h2 := hb c List.mem_cons_self
    rw [List.flatten_cons, List.length_append, h2] at this
    simp only [List.flatten_nil, List.length_nil] at this; omega
  | c :: a, [], ha, _, h => by
    have := congrArg List.length h
    have h2 := ha c List.mem_cons_self
    rw [List.flatten_cons, List.length_append, h2] at this
    simp only [List.flatten_nil, List.length_nil] at this; omega
  | c :: a, d :: b, ha, hb, h => by
    rw [List.flatten_cons, List.flatten_cons] at h
    obtain ⟨e1, e2⟩ := List.append_inj h (by rw [ha c List.mem_cons_self, hb d List.mem_cons_self])
    rw [e1, chk_eq h0 (fun x hx => ha x (List.mem_cons_of_mem _ hx)) (fun x hx => hb x (List.mem_cons_of_mem _ hx)) e2]
structure Full {α : Type} (K : Kd α) (e : TypeId) (w : World) (b n c : Nat) (ch : List (List Value)) (xs : List α) : Prop where
  blk : Blk w b ch.flatten e
  chk : Chk K.sz ch
  len : ch.length = c
  cap : c ≤ maxLen
  le : n ≤ c
  rep : RepC K 0 0 w xs (ch.take n)
  pos : 0 < K.sz
section
variable {α : Type} {K : Kd α} {e : TypeId} {S : Nat → Prop} {w w' : World} {b n c : Nat} {ch : List (List Value)} {xs : List α}
theorem Full.xlen (h : Full K e w b n c ch xs) : xs.length = n := by rw [h.rep.len, List.length_take, h.len]; exact Nat.min_eq_left h.le
theorem Mine.full {A : Option Addr} (hp : 0 < K.sz) (h : Mine K e S 0 0 w (.slice A n c) xs) : (n = 0 ∧ c = 0 ∧ A = none ∧ xs = []) ∨ ∃ b ch, A = some ⟨b, 0, none⟩ ∧ S b ∧ Full K e w b n c ch xs := by
  obtain ⟨q, ⟨⟨cs, hr, ho⟩, hb⟩, hS⟩ := h
  rcases ho.2 with ⟨h0, h1⟩ | ⟨g, cap, cur, he, hg, hh, hnc, hcm, hcs, htk⟩
  · injection h0 with e1 e2 e3
    exact .inl ⟨e2, e3, e1, List.eq_nil_of_length_eq_zero h1⟩
  · injection he with e1 e2 e3
    subst e1 e3
    obtain ⟨ch, h1, h2, h3⟩ := chunks K.sz c cur.toList (by simpa using hcs)
    obtain ⟨ch2, g1, g2⟩ := hr.repC
    have hlen : xs.length = n := e2.symm
    have e4 : ch.take n = ch2 := chk_eq hp (h1.take n) g1.chk (by rw [← Chk.take_f n h1 Zz, h3, g2, ← htk, hlen])
    refine .inr ⟨g, ch, rfl, hS g (by rw [← hb]; rfl), ⟨by unfold Blk; rw [h3]; simpa using hh, h1, h2, hcm, by omega, by rw [e4]; exact g1, hp⟩⟩
theorem Full.mine (h : Full K e w b n c ch xs) (hS : S b) : Mine K e S 0 0 w (.slice (some ⟨b, 0, none⟩) n c) xs := by
  have hx := h.xlen
  have hl := h.chk.len
  rw [h.len] at hl
  refine ⟨some b, ⟨⟨(ch.take n).flatten, h.rep.reps, ?_⟩, rfl⟩, fun k hk => by cases hk; exact hS⟩
  refine ⟨by rw [(h.chk.take n).len, List.length_take, h.len, Nat.min_eq_left h.le, hx], .inr ⟨b, c, ch.flatten.toArray, by rw [hx], Nat.zero_le _, h.blk, by rw [hx]; exact h.le, h.cap, by simpa using hl, ?_⟩⟩
  rw [hx]
  simp only [List.toList_toArray]
  exact Chk.take_f n h.chk (by rw [h.len]; exact h.le)
theorem Full.cut (h : Full K e w b n c ch xs) (m : Nat) (hm : m ≤ n) : Full K e w b m c ch (xs.take m) :=
  ⟨h.blk, h.chk, h.len, h.cap, Nat.le_trans hm h.le, by have := h.rep.takeC m; rwa [List.take_take, Nat.min_eq_left hm] at this, h.pos⟩
theorem Full.ext (hF : Flat K) (h : Full K e w b n c ch xs) {T : Nat → Prop} (x : Ext T w w') (hT : ¬ T b) : Full K e w' b n c ch xs :=
  ⟨h.blk.ext x hT, h.chk, h.len, h.cap, h.le, h.rep.flat hF, h.pos⟩
theorem Full.sl (hF : Flat K) (h : Full K e w b n c ch xs) (i : Nat) (hi : i ≤ n) : Sl K b (b + 1) w (some ⟨b, i * K.sz, none⟩) (n - i) (xs.drop i) := by
  have hx := h.xlen
  have hcm := h.cap
  have hle := h.le
  refine ⟨by rw [List.length_drop, hx], by simp only [maxLen] at hcm; omega, fun hn => ⟨_, rfl, Nat.le_refl _, Nat.lt_succ_self _, fun j y hy => ?_⟩⟩
  rw [List.getElem?_drop] at hy
  have hrr := (h.rep.flat hF (lo' := b) (hi' := b + 1) (w' := w)).reps
  obtain ⟨a, ha, hq⟩ := hrr.get (i + j) y hy
  refine ⟨a, ha, fun k u hu => ?_⟩
  have h1 := hq k u hu
  rw [add_mk, h.blk.cell]
  rw [← Chk.take_f n h.chk (by rw [h.len]; exact hle), List.getElem?_take] at h1
  split at h1
  · rw [← h1]; congr 1; rw [Nat.add_mul]; omega
  · cases h1
end
theorem ins_grow {X zv z2 : List (List Value)} {i n : Nat} (hi : i ≤ n) (hX : i + 1 ≤ X.length) (hv : zv.length = 1) (h2 : z2.length = n - i) : ((X.take i ++ zv ++ X.drop (i + 1)).take (i + 1) ++ z2 ++ (X.take i ++ zv ++ X.drop (i + 1)).drop (i + 1 + (n - i))).take (n + 1) = X.take i ++ zv ++ z2 := by
  have h3 : (X.take i ++ zv).length = i + 1 := by rw [List.length_append, List.length_take, hv]; omega
  have e1 : (X.take i ++ zv ++ X.drop (i + 1)).take (i + 1) = X.take i ++ zv := by rw [← h3]; exact List.take_left
  rw [e1]
  have h4 : (X.take i ++ zv ++ z2).length = n + 1 := by rw [List.length_append, h3, h2]; omega
  rw [← h4]; exact List.take_left
theorem ins_room {X zv z2 : List (List Value)} {i n : Nat} (hi : i ≤ n) (hX : n + 1 ≤ X.length) (hv : zv.length = 1) (h2 : z2.length = n - i) : ((X.take (i + 1) ++ z2 ++ X.drop (i + 1 + (n - i))).take i ++ zv ++ (X.take (i + 1) ++ z2 ++ X.drop (i + 1 + (n - i))).drop (i + 1)).take (n + 1) = X.take i ++ zv ++ z2 := by
  have h3 : (X.take (i + 1)).length = i + 1 := by rw [List.length_take]; omega
  have e1 : (X.take (i + 1) ++ z2 ++ X.drop (i + 1 + (n - i))).take i = X.take i := by
    rw [List.append_assoc, List.take_append_of_le_length Zz, List.take_take, Nat.min_eq_left Zz]
  have e2 : (X.take (i + 1) ++ z2 ++ X.drop (i + 1 + (n - i))).drop (i + 1) = z2 ++ X.drop (i + 1 + (n - i)) := by
    rw [List.append_assoc, List.drop_append_of_le_length Zz, List.drop_of_length_le Zz, List.nil_append]
  rw [e1, e2]
  have h4 : (X.take i ++ zv ++ z2).length = n + 1 := by rw [List.length_append, List.length_append, List.length_take, hv, h2]; omega
  rw [← List.append_assoc, ← h4]; exact List.take_left
section
variable {P : Program} {ρ : Operand → Value} {w : World} {dst : Option Tmp} {ty : TypeId} {pos : String} {aft : Array Edge} {g : Option (Nat × Bool)}
variable {α : Type} {K : Kd α} {e T : TypeId}
theorem splice_f {sz : Nat} {ch zs : List (List Value)} (h : Chk sz ch) (hz : Chk sz zs) (p : Nat) (hp : p + zs.length ≤ ch.length) : ch.flatten.take (p * sz) ++ zs.flatten ++ ch.flatten.drop (p * sz + zs.flatten.length) = (ch.take p ++ zs ++ ch.drop (p + zs.length)).flatten := by
  rw [Chk.take_f p h Zz, hz.len, ← Nat.add_mul, Chk.drop_f _ h hp]; simp
theorem Blk.splice {b : Nat} {cs cs' : List Value} (h : Blk w b cs e) : Blk (w.setRow b cs'.toArray) b cs' e := by
  unfold Blk at h ⊢
  simp only [World.setRow, Array.getElem?_modify, if_true, h, Option.map_some]
theorem Ext.setRow (w : World) (b : Nat) (cs : Array Value) : Ext (fun k => k = b) w (w.setRow b cs) := ⟨rfl, rfl, rfl, by simp [World.setRow], fun k _ hk => by simp only [World.setRow, Array.getElem?_modify]; rw [if_neg (fun h => hk h.symm)]⟩
theorem copyE {x y : Operand} {b p dn dc sn sc m : Nat} {ch : List (List Value)} {A : Option Addr} {ys : List α} {lo hi : Nat} {U : TypeId} (hF : Flat K) (hT : P.underlying T = some (.slice e)) (hs : ∀ w, (sizeOf e).run P w = .ok K.sz w) (hx : ρ x = .slice (some ⟨b, p * K.sz, none⟩) dn dc) (hy : ρ y = .slice A sn sc)
    (hm0 : m = min sn dn) (hB : Blk w b ch.flatten e) (hc : Chk K.sz ch) (hfit : p + m ≤ ch.length) (hS : Sl K lo hi w A m ys) :
    DoesE P ⟨dst, .call ⟨.builtin .copy, #[x, y], #[T, U]⟩, ty, pos, aft, g⟩ ρ w fun v w' => ∃ zs, v = .int .i64 (m : Int) ∧ RepC K 0 0 w ys zs ∧ Blk w' b (ch.take p ++ zs ++ ch.drop (p + m)).flatten e ∧ Chk K.sz (ch.take p ++ zs ++ ch.drop (p + m)) ∧ Ext (fun k => k = b) w w' ∧ w'.heap.size = w.heap.size := by
  have hm : m = Nat.min sn dn := hm0
  obtain ⟨cs, hr, hcell⟩ := hS.reps
  obtain ⟨zs, h1, h2⟩ := (hr.flat hF (lo' := 0) (hi' := 0) (w' := w)).repC
  have hzl : zs.length = m := by rw [← h1.len]; exact hS.len
  have hzc := h1.chk
  have hcl : cs.length = m * K.sz := by rw [← h2, hzc.len, hzl]
  have hfit2 : p * K.sz + cs.length ≤ ch.flatten.length := by rw [hcl, hc.len, ← Nat.add_mul]; exact Nat.mul_le_mul_right _ hfit
  have hst := run_storeCells_at P b (p * K.sz) e cs 0 ch.flatten.toArray w hB (by simpa using hfit2) hr.one
  simp only [Nat.add_zero, List.toList_toArray] at hst
  have e1 : ch.flatten.take (p * K.sz) ++ cs ++ ch.flatten.drop (p * K.sz + cs.length) = (ch.take p ++ zs ++ ch.drop (p + m)).flatten := by
    rw [← h2, splice_f hc hzc p Zz, hzl]
  rw [e1] at hst
  refine (does_run (v := .int .i64 (m : Int)) (w' := w.setRow b ((ch.take p ++ zs ++ ch.drop (p + m)).flatten).toArray) rfl ?_).e ⟨zs, rfl, h1, Blk.splice hB, (((hc.take p).app hzc).app (hc.drop _)), Ext.setRow w b _, by simp [World.setRow]⟩
  have hfc : (Builtin.firstCells K.sz m (.slice A sn sc)).run P w = .ok cs.toArray w := by
    cases A with
    | none =>
      have : m = 0 := by
        rcases Nat.eq_zero_or_pos m with h | h
        · exact h
        · obtain ⟨ad, q, _⟩ := hS.at_ h
          cases q
      have hcs : cs = [] := List.eq_nil_of_length_eq_zero (by rw [hcl, this]; simp)
      rw [hcs]; rfl
    | some a =>
      have := run_loadCells_list (P := P) w a cs (fun j u hu => hcell a rfl j u hu)
      rw [hcl] at this
      simpa [Builtin.firstCells] using this
  simp only [execOp, resolve, invoke, builtin, List.map_toArray, List.map_cons, List.map_nil, hx, hy]
  simp [Builtin.copy_, run_underlying hT, Builtin.lenOf, hs, ← hm, hfc, hst, goInt]
theorem appInE {s x : Operand} {b i c m sc : Nat} {ch : List (List Value)} {A : Option Addr} {ys : List α} {lo hi : Nat} (hF : Flat K) (hT : P.underlying T = some (.slice e)) (hs : ∀ w, (sizeOf e).run P w = .ok K.sz w) (hx : ρ s = .slice (some ⟨b, 0, none⟩) i c) (hy : ρ x = .slice A m sc)
    (hroom : i + m ≤ c) (hB : Blk w b ch.flatten e) (hc : Chk K.sz ch) (hl : ch.length = c) (hS : Sl K lo hi w A m ys) :
    DoesE P ⟨dst, .call ⟨.builtin .append, #[s, x], #[T, T]⟩, ty, pos, aft, g⟩ ρ w fun v w' => ∃ zs, v = .slice (some ⟨b, 0, none⟩) (i + m) c ∧ RepC K 0 0 w ys zs ∧ Blk w' b (ch.take i ++ zs ++ ch.drop (i + m)).flatten e ∧ Chk K.sz (ch.take i ++ zs ++ ch.drop (i + m)) ∧ Ext (fun k => k = b) w w' ∧ w'.heap.size = w.heap.size := by
  obtain ⟨cs, hr, hcell⟩ := hS.reps
  obtain ⟨zs, h1, h2⟩ := (hr.flat hF (lo' := 0) (hi' := 0) (w' := w)).repC
  have hzl : zs.length = m := by rw [← h1.len]; exact hS.len
  have hzc := h1.chk
  have hcl : cs.length = m * K.sz := by rw [← h2, hzc.len, hzl]
  have hfit2 : i * K.sz + cs.length ≤ ch.flatten.length := by rw [hcl, hc.len, ← Nat.add_mul, hl]; exact Nat.mul_le_mul_right _ hroom
  have hst := run_storeCells_at P b (i * K.sz) e cs 0 ch.flatten.toArray w hB (by simpa using hfit2) hr.one
  simp only [Nat.add_zero, List.toList_toArray] at hst
  have e1 : ch.flatten.take (i * K.sz) ++ cs ++ ch.flatten.drop (i * K.sz + cs.length) = (ch.take i ++ zs ++ ch.drop (i + m)).flatten := by
    rw [← h2, splice_f hc hzc i Zz, hzl]
  rw [e1] at hst
  refine (does_run (v := .slice (some ⟨b, 0, none⟩) (i + m) c) (w' := w.setRow b ((ch.take i ++ zs ++ ch.drop (i + m)).flatten).toArray) rfl ?_).e ⟨zs, rfl, h1, Blk.splice hB, (((hc.take i).app hzc).app (hc.drop _)), Ext.setRow w b _, by simp [World.setRow]⟩
  have hfc : (Builtin.firstCells K.sz m (.slice A m sc)).run P w = .ok cs.toArray w := by
    cases A with
    | none =>
      have : m = 0 := by
        rcases Nat.eq_zero_or_pos m with h | h
        · exact h
        · obtain ⟨ad, q, _⟩ := hS.at_ h
          cases q
      have hcs : cs = [] := List.eq_nil_of_length_eq_zero (by rw [hcl, this]; simp)
      rw [hcs]; rfl
    | some a =>
      have := run_loadCells_list (P := P) w a cs (fun j u hu => hcell a rfl j u hu)
      rw [hcl] at this
      simpa [Builtin.firstCells] using this
  simp only [execOp, resolve, invoke, builtin, List.map_toArray, List.map_cons, List.map_nil, hx, hy]
  have hadd : (⟨b, 0, none⟩ : Addr).add (i * K.sz) = ⟨b, i * K.sz, none⟩ := by rw [add_mk, Nat.zero_add]
  simp [Builtin.append_, run_underlying hT, Builtin.lenOf, hs, hroom, hfc, hadd, hst]
theorem clearE {x : Operand} {b p n sc : Nat} {z : Value} {ch : List (List Value)} (hT : P.underlying T = some (.slice e)) (hz : ∀ w, (zeroValue e).run P w = .ok z w) (hzs : z.cells.size = K.sz) (h1 : ∀ u, u ∈ z.cells.toList → u.oneCell' = true) (hx : ρ x = .slice (some ⟨b, p * K.sz, none⟩) n sc) (hfit : p + n ≤ ch.length) (hB : Blk w b ch.flatten e) (hc : Chk K.sz ch) :
    DoesE P ⟨dst, .call ⟨.builtin .clear, #[x], #[T]⟩, ty, pos, aft, g⟩ ρ w fun v w' => ∃ zs, v = .tuple #[] ∧ zs.length = n ∧ Blk w' b (ch.take p ++ zs ++ ch.drop (p + n)).flatten e ∧ Chk K.sz (ch.take p ++ zs ++ ch.drop (p + n)) ∧ Ext (fun k => k = b) w w' ∧ w'.heap.size = w.heap.size := by
  rcases Nat.eq_zero_or_pos n with h0 | h0
  · subst h0
    refine (does_run (v := .tuple #[]) (w' := w) rfl ?_).e ⟨[], rfl, rfl, by simpa using hB, by simpa using hc, Ext.refl _ _, rfl⟩
    simp only [execOp, resolve, invoke, builtin, List.map_toArray, List.map_cons, List.map_nil, hx]
    simp [Builtin.clear_, run_underlying hT]
  · have hl : (Builtin.zeroCells z.cells n).toList.length = n * K.sz := by simp [Builtin.zeroCells, hzs]
    obtain ⟨zs, q1, q2, q3⟩ := chunks K.sz n _ hl
    have hone : ∀ u, u ∈ (Builtin.zeroCells z.cells n).toList → u.oneCell' = true := by
      intro u hu
      simp only [Builtin.zeroCells, Array.toList_map, List.mem_map] at hu
      obtain ⟨i, hi, rfl⟩ := hu
      have hlt : i < n * z.cells.size := by simpa using hi
      have hp : 0 < z.cells.size := Nat.pos_of_ne_zero fun h => by rw [h] at hlt; omega
      have : i % z.cells.size < z.cells.size := Nat.mod_lt _ hp
      rw [getElem!_pos z.cells _ this]
      exact h1 _ (by simp)
    have hfit2 : p * K.sz + (Builtin.zeroCells z.cells n).toList.length ≤ ch.flatten.length := by rw [hl, hc.len, ← Nat.add_mul]; exact Nat.mul_le_mul_right _ hfit
    have hst := run_storeCells_at P b (p * K.sz) e _ 0 ch.flatten.toArray w hB (by simpa using hfit2) hone
    simp only [Nat.add_zero, List.toList_toArray] at hst
    have e1 : ch.flatten.take (p * K.sz) ++ (Builtin.zeroCells z.cells n).toList ++ ch.flatten.drop (p * K.sz + (Builtin.zeroCells z.cells n).toList.length) = (ch.take p ++ zs ++ ch.drop (p + n)).flatten := by
      rw [← q3, splice_f hc q1 p Zz, q2]
    rw [e1] at hst
    refine (does_run (v := .tuple #[]) (w' := w.setRow b ((ch.take p ++ zs ++ ch.drop (p + n)).flatten).toArray) rfl ?_).e ⟨zs, rfl, q2, Blk.splice hB, (((hc.take p).app q1).app (hc.drop _)), Ext.setRow w b _, by simp [World.setRow]⟩
    simp only [execOp, resolve, invoke, builtin, List.map_toArray, List.map_cons, List.map_nil, hx]
    obtain ⟨n', rfl⟩ : ∃ n', n = n' + 1 := ⟨n - 1, by omega⟩
    simp [Builtin.clear_, run_underlying hT, hz, hst]
theorem appMkGrowE {U : TypeId} {s x : Operand} {b i c m bytes : Nat} {ch : List (List Value)} (hT : P.underlying T = some (.slice e)) (hU : P.underlying U = some (.int .i64)) (hI : ElemInfo P e K.sz bytes) (hx : ρ s = .slice (some ⟨b, 0, none⟩) i c) (hy : ρ x = .int .i64 (m : Int))
    (hroom : c < i + m) (hic : i ≤ c) (hmax : (i + m) * bytes ≤ 140737488355328) (hB : Blk w b ch.flatten e) (hc : Chk K.sz ch) (hl : ch.length = c) :
    DoesE P ⟨dst, .call ⟨.builtin .append, #[s, x], #[T, U]⟩, ty, pos, aft, g⟩ ρ w fun v w' => ∃ nc zs, v = .slice (some ⟨w.heap.size, 0, none⟩) (i + m) nc ∧ i + m ≤ nc ∧ nc ≤ maxLen ∧ zs.length = nc - i ∧ Blk w' w.heap.size (ch.take i ++ zs).flatten e ∧ Chk K.sz (ch.take i ++ zs) ∧ Keep w w' ∧ w'.heap.size = w.heap.size + 1 := by
  obtain ⟨⟨inf, z, h1, h2, h3, h4, h5⟩, h6, h7⟩ := hI
  subst h4
  have hm0 : 0 < m := by omega
  have hmb : m * inf.bytes ≤ 140737488355328 := Nat.le_trans (Nat.mul_le_mul_right _ Zz) hmax
  have hm : i + m ≤ 140737488355328 := Nat.le_trans (Nat.le_mul_of_pos_right _ h7) hmax
  have hw : IntKind.i64.wrap (m : Int) = (m : Int) := w_i64 Zz
  have hn0 : m ≠ 0 := by omega
  have hms : m * inf.size ≠ 0 := Nat.ne_of_gt (Nat.mul_pos hm0 (by rw [h3]; exact h6))
  have hneg : ¬ ((m : Int) < 0) := by omega
  have h48 : ¬ ((281474976710656 : Int) < (m : Int) * (inf.bytes : Int)) := by
    have : ((m * inf.bytes : Nat) : Int) ≤ 140737488355328 := Int.ofNat_le.2 hmb
    rw [Int.natCast_mul] at this; omega
  have h48' : ¬ (281474976710656 < Builtin.nextslicecap (i + m) c * inf.bytes) := Nat.not_lt.2 (growslice_fits Zz Zz)
  have h63' : ¬ ((9223372036854775807 : Int) < (i : Int) + (m : Int)) := by omega
  have hnr : ¬ (i + m ≤ c) := by omega
  have hge := grownCap_ge w (i + m) c e
  have hti : ch.flatten.take (i * K.sz) = (ch.take i).flatten := Chk.take_f i hc Zz
  have htl : (ch.take i).flatten.length = i * inf.size := by rw [(hc.take i).len, List.length_take, hl, Nat.min_eq_left hic, h3]
  have hf : (Builtin.firstCells inf.size i (.slice (some ⟨b, 0, none⟩) i c)).run P w.drew = .ok (ch.take i).flatten.toArray w.drew := run_firstCells_some (P := P) w.drew inf.size i ⟨b, 0, none⟩ i c (ch.take i).flatten Zz (by
    intro j u hu
    rw [add_mk, Nat.zero_add]
    show w.drew.cell? _ = _
    have : w.drew.cell? ⟨b, j, none⟩ = w.cell? ⟨b, j, none⟩ := rfl
    rw [this, hB.cell, ← hu, ← hti, List.getElem?_take]
    split
    · rfl
    · rename_i hh
      have := (List.getElem?_eq_some_iff.1 hu).1
      rw [htl, h3] at this; exact absurd this hh)
  have hzl : (Builtin.zeroCells z.cells m ++ Builtin.zeroCells z.cells (grownCap w (i + m) c e - (i + m))).toList.length = (grownCap w (i + m) c e - i) * K.sz := by
    have h5' : z.cells.size = K.sz := h5
    rw [Array.length_toList, Array.size_append, size_zeroCells, size_zeroCells, h5', ← Nat.add_mul]
    congr 1; omega
  obtain ⟨zs, q1, q2, q3⟩ := chunks K.sz _ _ hzl
  refine (does_run (v := .slice (some ⟨w.heap.size, 0, none⟩) (i + m) (grownCap w (i + m) c e)) (w' := w.drew.alloc (.cells ((ch.take i).flatten.toArray ++ Builtin.zeroCells z.cells m ++ Builtin.zeroCells z.cells (grownCap w (i + m) c e - (i + m))) e)) rfl ?_).e ⟨grownCap w (i + m) c e, zs, rfl, by omega, grownCap_le_maxLen w (i + m) c e (by simp only [maxLen]; omega), q2, ?_, (hc.take i).app q1, ⟨rfl, rfl, rfl, by simp, fun k hk _ => heap_alloc_old w.drew _ (h := hk)⟩, by simp⟩
  · have key : (Builtin.append_ #[T, U] ty #[.slice (some ⟨b, 0, none⟩) i c, .int .i64 (m : Int)]).run P w = .ok (.slice (some ⟨w.heap.size, 0, none⟩) (i + m) (grownCap w (i + m) c e)) (w.drew.alloc (.cells ((ch.take i).flatten.toArray ++ Builtin.zeroCells z.cells m ++ Builtin.zeroCells z.cells (grownCap w (i + m) c e - (i + m))) e)) := by
      simp [Builtin.append_, run_underlying hT, run_underlying hU, sizeOf, typeInfo, zeroValue, h1, h2, hn0, hms, h63', h48', h48, hnr, hneg, hw, asInt, asIntOf, Question.forced, hf, newRow, grownCap]
    simp only [execOp, resolve, invoke, builtin, List.map_toArray, List.map_cons, List.map_nil, hx, hy]
    simp [key]
  · have := heap_alloc_new w.drew (.cells ((ch.take i).flatten.toArray ++ Builtin.zeroCells z.cells m ++ Builtin.zeroCells z.cells (grownCap w (i + m) c e - (i + m))) e)
    unfold Blk
    rw [List.flatten_append, q3, show ((ch.take i).flatten ++ (Builtin.zeroCells z.cells m ++ Builtin.zeroCells z.cells (grownCap w (i + m) c e - (i + m))).toList).toArray = (ch.take i).flatten.toArray ++ Builtin.zeroCells z.cells m ++ Builtin.zeroCells z.cells (grownCap w (i + m) c e - (i + m)) by apply Array.toList_inj.1; simp]
    exact this
theorem externE {G : FuncId} {fn : Func} {ex : Array Value → Sem Value} {xs : List Operand} {tys : Array TypeId} {vs : List Value} {v : Value} (hf : P.funcs[G]? = some fn) (hname : (fn.name == "runtime.NumGoroutine") = false) (hb : fn.body.isNone = true) (hn : Extern.findNext fn = none) (he : Extern.find fn = some ex)
    (hv : xs.map ρ = vs) (hg : ρ (.func G) = .func (.func G) #[] #[]) (h : (ex vs.toArray).run P w = .ok v w) : Does P ⟨dst, .call ⟨.value (.func G), xs.toArray, tys⟩, ty, pos, aft, g⟩ ρ w v w :=
  does_run rfl (by
    have h2 := run_callFunc_extern (P := P) hf hname hb hn he vs.toArray w
    rw [h] at h2
    simp [execOp, resolve, hg, Deferred.ofValue, invoke, hv, h2, Result.andThen])
theorem run_apart {tS tR : TypeId} {b1 b2 o1 o2 la ca lb cb sz : Nat} {cs1 cs2 : List Value} {e1 e2 : TypeId} (ht : P.underlying tS = some (.slice e)) (hz : ∀ w, (sizeOf e).run P w = .ok sz w) (hne : b1 ≠ b2) (h1 : Blk w b1 cs1 e1) (h2 : Blk w b2 cs2 e2) (hk : 0 < cs2.length) :
    (Extern.SlicesOverlaps.overlaps #[tS, tS] #[tR] #[.slice (some ⟨b1, o1, none⟩) la ca, .slice (some ⟨b2, o2, none⟩) lb cb]).run P w = .ok (.bool false) w :=
  Lib.run_overlaps_apart w tS tR e ht sz hz _ _ la ca lb cb hne e1 e2 cs1.length cs2.length (by unfold Blk at h1; simp [World.shape?, h1]) (by unfold Blk at h2; simp [World.shape?, h2]) Zz (h1.free o1) (h1.free _)
theorem cutLB {x l : Operand} {sz b n c p : Nat} {kl : IntKind} (hT : P.underlying T = some (.slice e)) (hs : ∀ w, (sizeOf e).run P w = .ok sz w) (hx : ρ x = .slice (some ⟨b, 0, none⟩) n c) (hl : ρ l = .int kl (p : Int)) (h0 : p ≤ n) (hp : p < c) :
    Does P ⟨dst, .slice T x (some l) none none, ty, pos, aft, g⟩ ρ w (.slice (some ⟨b, p * sz, none⟩) (n - p) (c - p)) w := by
  have := cutL (P := P) (ρ := ρ) (w := w) (dst := dst) (ty := ty) (pos := pos) (aft := aft) (g := g) hT hs hx hl Zz
  rw [Int.toNat_natCast, if_neg Zz, Option.map_some, add_mk, Nat.zero_add] at this
  exact this
theorem cutLHB {x l h : Operand} {sz b n c p q : Nat} {kl kh : IntKind} (hT : P.underlying T = some (.slice e)) (hs : ∀ w, (sizeOf e).run P w = .ok sz w) (hx : ρ x = .slice (some ⟨b, 0, none⟩) n c) (hl : ρ l = .int kl (p : Int)) (hh : ρ h = .int kh (q : Int)) (h0 : p ≤ q ∧ q ≤ c) (hp : p < c) :
    Does P ⟨dst, .slice T x (some l) (some h) none, ty, pos, aft, g⟩ ρ w (.slice (some ⟨b, p * sz, none⟩) (q - p) (c - p)) w := by
  have := cutLH (P := P) (ρ := ρ) (w := w) (dst := dst) (ty := ty) (pos := pos) (aft := aft) (g := g) hT hs hx hl hh Zz
  rw [Int.toNat_natCast, Int.toNat_natCast, if_neg Zz, Option.map_some, add_mk, Nat.zero_add] at this
  exact this
theorem cutHB {x h : Operand} {sz b n c q : Nat} {kh : IntKind} (hT : P.underlying T = some (.slice e)) (hs : ∀ w, (sizeOf e).run P w = .ok sz w) (hx : ρ x = .slice (some ⟨b, 0, none⟩) n c) (hh : ρ h = .int kh (q : Int)) (h0 : q ≤ c) :
    Does P ⟨dst, .slice T x none (some h) none, ty, pos, aft, g⟩ ρ w (.slice (some ⟨b, 0, none⟩) q c) w := cutHr hT hs hx hh Zz
theorem cut3E {x l h mx : Operand} {sz : Nat} {A : Option Addr} {n c : Nat} {kl kh km : IntKind} {p q r : Int} (hT : P.underlying T = some (.slice e)) (hs : ∀ w, (sizeOf e).run P w = .ok sz w) (hx : ρ x = .slice A n c) (hl : ρ l = .int kl p) (hh : ρ h = .int kh q) (hm : ρ mx = .int km r) (h0 : 0 ≤ p ∧ p ≤ q ∧ q ≤ r ∧ r ≤ (c : Int)) :
    Does P ⟨dst, .slice T x (some l) (some h) (some mx), ty, pos, aft, g⟩ ρ w (.slice (if r.toNat = p.toNat then A else A.map (·.add (p.toNat * sz))) (q.toNat - p.toNat) (r.toNat - p.toNat)) w :=
  does_run rfl (by
    have := run_slice_lhm (P := P) w T A n c (elem_eq hT) kl kh km p q r h0.1 h0.2.1 h0.2.2.1 h0.2.2.2
    simp [execOp, hx, hl, hh, hm, run_sliceAt_slice _ _ _ _ _ _ (elem_eq hT), this, elem_is hT, hs, sliced, Result.andThen])
end
def RetN (P : Program) (f : FuncId) (args : Array Value) (w : World) (R : Value → World → Prop) : Prop :=
  ∀ cs, ∃ v w', R v w' ∧ ∃ fr, Steps P (lone (Frame.enter P f args .normal) cs w) (lone fr cs w') ∧ Left P f .normal fr w' (.ret v)
theorem Ret.n {P : Program} {f : FuncId} {args : Array Value} {w : World} {R : Value → World → Prop} (h : Ret P f args w R) : RetN P f args w R := h.call .normal
theorem RetN.mono {P : Program} {f : FuncId} {args : Array Value} {w : World} {R R' : Value → World → Prop} (h : RetN P f args w R) (hr : ∀ v w', R v w' → R' v w') : RetN P f args w R' :=
  fun cs => let ⟨v, w', r, s⟩ := h cs; ⟨v, w', hr _ _ r, s⟩
theorem RetN.of {P : Program} {f : FuncId} {args : Array Value} {w : World} {R : Ending → World → Prop} {R' : Value → World → Prop} (h : Calls P f args w R) (hr : ∀ e w', R e w' → ∃ v, e = .returned v ∧ R' v w') : RetN P f args w R' := by
  intro cs
  obtain ⟨e, w', fr, r, hc, hf, hl⟩ := h cs
  obtain ⟨v, rfl, hv⟩ := hr e w' r
  obtain ⟨h1, h2, h3, fn, h4, h5⟩ := hl
  exact ⟨v, w', hv, fr, hc, h1, h2, h3, hf, fn, hf ▸ h4, h5⟩
section
variable {P : Program} {ρ : Operand → Value} {w : World} {dst : Option Tmp} {ty : TypeId} {pos : String} {aft : Array Edge} {g : Option (Nat × Bool)}
end
structure ItW {κ : Type} (enc : κ → Value) (w : World) (r b : Nat) (m : List (κ × Value)) (ds : List κ) : Prop where
  ex : ∃ (es : Array MapEntry) (ck since c0 : Nat) (seen : Array Nat), w.heap[r]? = some (.mapIter (some b) since seen c0) ∧ w.heap[b]? = some (.map es ck) ∧ es.toList.map (fun e => (e.key, e.val)) = m.map (fun p => (enc p.1, p.2)) ∧ (∀ e ∈ es.toList, e.born < since) ∧ since ≤ c0 ∧ since ≤ ck ∧ (es.toList.map (·.born)).Nodup ∧ (∀ (i : Nat) e p, es.toList[i]? = some e → m[i]? = some p → (seen.contains e.born = true ↔ p.1 ∈ ds))
  nodup : (m.map (·.1)).Nodup
section
variable {P : Program} {ρ : Operand → Value} {w w' : World} {dst : Option Tmp} {ty : TypeId} {pos : String} {aft : Array Edge} {g : Option (Nat × Bool)}
variable {κ : Type} [DecidableEq κ] {enc : κ → Value} {r b : Nat} {m : List (κ × Value)} {ds : List κ} {T K E : TypeId}
theorem It.weak (h : It enc w r b m ds) : ItW enc w r b m ds := ⟨let ⟨es, ck, since, c0, seen, h1, h2, h3, h4, h5, h6, h7, h8, _⟩ := h.ex; ⟨es, ck, since, c0, seen, h1, h2, h3, h4, h5, h6, h7, h8⟩, h.nodup⟩
theorem ItW.ext (h : ItW enc w r b m ds) {U : Nat → Prop} (x : Ext U w w') (hr : ¬ U r) (hb : ¬ U b) : ItW enc w' r b m ds :=
  ⟨let ⟨es, ck, since, c0, seen, h1, h2, h3⟩ := h.ex; ⟨es, ck, since, c0, seen, (x.keep r (lt_of_block h1) hr).trans h1, (x.keep b (lt_of_block h2) hb).trans h2, h3⟩, h.nodup⟩
theorem ItW.keep (h : ItW enc w r b m ds) (x : Keep w w') : ItW enc w' r b m ds := h.ext x id id
theorem It.mp (h : It enc w r b m ds) : Mp enc w b m :=
  ⟨let ⟨es, ck, since, c0, seen, h1, h2, h3, h4, h5, h6, h7, _⟩ := h.ex; ⟨es, ck, h2, h3, fun e he => Nat.lt_of_lt_of_le (h4 e he) h6, h7⟩, h.nodup⟩
theorem ItW.mp (h : ItW enc w r b m ds) : Mp enc w b m :=
  ⟨let ⟨es, ck, since, c0, seen, h1, h2, h3, h4, h5, h6, h7, _⟩ := h.ex; ⟨es, ck, h2, h3, fun e he => Nat.lt_of_lt_of_le (h4 e he) h6, h7⟩, h.nodup⟩
theorem ItW.lt (h : ItW enc w r b m ds) : r < w.heap.size := let ⟨_, _, _, _, _, h, _⟩ := h.ex; lt_of_block h
theorem nextWE {x : Operand} (hI : ItW enc w r b m ds) (hx : ρ x = .pointer (some ⟨r, 0, none⟩)) : DoesE P ⟨dst, .next x false, ty, pos, aft, g⟩ ρ w fun v w' => (v = .tuple #[.bool false] ∧ (∀ p, p ∈ m → p.1 ∈ ds) ∧ w' = w) ∨ ∃ p, p ∈ m ∧ p.1 ∉ ds ∧ v = .tuple #[.bool true, enc p.1, p.2] ∧ It enc w' r b m (p.1 :: ds) ∧ Ext (fun q => q = r) w w' ∧ w'.heap.size = w.heap.size := by
  obtain ⟨es, ck, since, c0, seen, h1, h2, h3, h4, h5, h5b, h6, h7⟩ := hI.ex
  have hlen : es.toList.length = m.length := by have := congrArg List.length h3; simpa using this
  have hrl := lt_of_block h1
  rcases run_next_at (P := P) w ty r b since c0 seen es ck h1 h2 h4 h5 with ⟨h9, h10⟩ | ⟨e, he, w1, hal, h10⟩
  · refine (does_run (v := .tuple #[.bool false]) (w' := w) rfl (by simp only [execOp, hx]; rw [Sem.run_bind, h10]; rfl)).e (.inl ⟨rfl, fun p hp => ?_, rfl⟩)
    obtain ⟨i, hi⟩ := List.getElem?_of_mem hp
    have hil : i < es.toList.length := by rw [hlen]; exact (List.getElem?_eq_some_iff.1 hi).1
    exact (h7 i _ p (List.getElem?_eq_getElem hil) hi).1 (all_seen es seen h9 _ (List.getElem_mem hil))
  · obtain ⟨hem, hsn⟩ := mem_left he
    obtain ⟨i, hi⟩ := List.getElem?_of_mem hem
    obtain ⟨p, hp, hk, hv⟩ := getP h3 hi
    rw [hk, hv] at h10
    have hheap : w1.heap = w.heap := by rcases hal with rfl | rfl <;> rfl
    have hsz : w1.heap.size = w.heap.size := by rw [hheap]
    have hget : ∀ k, k ≠ r → (w1.heap.setIfInBounds r (.mapIter (some b) since (seen.push e.born) ck))[k]? = w.heap[k]? := fun k hk => by
      rw [Array.getElem?_setIfInBounds, if_neg (fun h => hk h.symm), hheap]
    have hbr : b ≠ r := fun h => by rw [h] at h2; rw [h1] at h2; cases h2
    refine (does_run (v := .tuple #[.bool true, enc p.1, p.2]) (w' := _) rfl (by simp only [execOp, hx]; rw [Sem.run_bind, h10]; rfl)).e (.inr ⟨p, List.mem_of_getElem? hp, fun hd => ?_, rfl, ⟨⟨es, ck, since, ck, seen.push e.born, ?_, (hget b hbr).trans h2, h3, h4, h5b, h5b, h6, fun j f q hf hq => ?_, fun k t hkt => ?_⟩, hI.nodup⟩, ⟨?_, ?_, ?_, by simp [hsz], fun k hk hn => hget k hn⟩, by simp [hsz]⟩)
    · have := (h7 i e p hi hp).2 hd
      rw [this] at hsn; cases hsn
    · show (w1.heap.setIfInBounds r _)[r]? = _
      rw [Array.getElem?_setIfInBounds, if_pos rfl, if_pos (by rw [hsz]; exact hrl)]
    · rw [contains_push, Bool.or_eq_true, List.mem_cons, h7 j f q hf hq, beq_iff_eq]
      constructor
      · rintro (h | h)
        · exact .inr h
        · have : f = e := born_inj h6 (List.mem_of_getElem? hf) hem h
          subst this
          have hij : i = j := by
            have a1 : (es.toList.map (·.born))[i]? = some f.born := by rw [List.getElem?_map, hi]; rfl
            have a2 : (es.toList.map (·.born))[j]? = some f.born := by rw [List.getElem?_map, hf]; rfl
            exact (List.getElem?_inj (List.getElem?_eq_some_iff.1 a1).1 h6).1 (a1.trans a2.symm)
          subst hij
          rw [hp] at hq; cases hq
          exact .inl rfl
      · rintro (h | h)
        · right
          have hij : i = j := by
            have a1 : (m.map (·.1))[i]? = some p.1 := by rw [List.getElem?_map, hp]; rfl
            have a2 : (m.map (·.1))[j]? = some p.1 := by rw [List.getElem?_map, hq, ← h]; rfl
            exact (List.getElem?_inj (List.getElem?_eq_some_iff.1 a1).1 hI.nodup).1 (a1.trans a2.symm)
          subst hij
          rw [hi] at hf; cases hf; rfl
        · exact .inl h
    · cases hkt
      exact ⟨i, e, p, seen, hi, hp, rfl, rfl, rfl⟩
    · rcases hal with rfl | rfl <;> rfl
    · rcases hal with rfl | rfl <;> rfl
    · rcases hal with rfl | rfl <;> rfl
theorem erase_at {α : Type} {l : List α} {j i : Nat} {x : α} (h : (l.eraseIdx j)[i]? = some x) : ∃ i', l[i']? = some x ∧ i' = (if i < j then i else i + 1) := by
  rw [List.getElem?_eraseIdx] at h
  split at h
  · exact ⟨i, h, by rw [if_pos (by assumption)]⟩
  · exact ⟨i + 1, h, by rw [if_neg (by assumption)]⟩
theorem deleteItE {M x : Operand} {a : κ} {tx : TypeId} (hT : P.underlying T = some (.map K E)) (hK : KeyT P K enc) (hI : ItW enc w r b m ds) (ha : a ∈ ds) (hm : ρ M = .map (some b)) (hx : ρ x = enc a) : DoesE P ⟨dst, .call ⟨.builtin .delete, #[M, x], #[T, tx]⟩, ty, pos, aft, g⟩ ρ w fun v w' => v = .tuple #[] ∧ ItW enc w' r b (del a m) ds ∧ Ext (fun k => k = b) w w' ∧ w'.heap.size = w.heap.size := by
  obtain ⟨es, ck, since, c0, seen, h0, h1, h2, h3, h5, h5b, h4, h7⟩ := hI.ex
  have hf := hK.find a m es.toList w h2
  have hc := hK.check es.isEmpty a w
  have hlt := lt_of_block h1
  have hbr : r ≠ b := fun h => by rw [h] at h0; rw [h1] at h0; cases h0
  rcases fnd_spec a m 0 with ⟨q1, _, q3, _, _⟩ | ⟨j, u, q1, q2, _, q4, _⟩
  · rw [q1] at hf
    refine (does_run (w' := { w with heap := w.heap.setIfInBounds b (.map es ck) }) (v := .tuple #[]) rfl ?_).e ⟨rfl, ⟨⟨es, ck, since, c0, seen, ((Ext.setMap w b _).keep r (lt_of_block h0) hbr).trans h0, setMap_at hlt _, by rw [q3]; exact h2, h3, h5, h5b, h4, by rw [q3]; exact h7⟩, by rw [q3]; exact hI.nodup⟩, Ext.setMap w b _, by simp⟩
    simp [execOp, resolve, invoke, builtin, Builtin.delete_, run_underlying hT, hm, hx, MapKept.run_getObj_map h1, hc, hf, MapKept.run_setObj_map _ h1]
  · rw [q1] at hf
    simp only [Nat.zero_add] at hf
    have he : (es.eraseIdxIfInBounds j).toList = es.toList.eraseIdx j := by simp
    refine (does_run (w' := { w with heap := w.heap.setIfInBounds b (.map (es.eraseIdxIfInBounds j) ck) }) (v := .tuple #[]) rfl ?_).e ⟨rfl, ⟨⟨_, ck, since, c0, seen, ((Ext.setMap w b _).keep r (lt_of_block h0) hbr).trans h0, setMap_at hlt _, ?_, ?_, h5, h5b, ?_, ?_⟩, del_nodup hI.nodup⟩, Ext.setMap w b _, by simp⟩
    · simp [execOp, resolve, invoke, builtin, Builtin.delete_, run_underlying hT, hm, hx, MapKept.run_getObj_map h1, hc, hf, MapKept.run_setObj_map _ h1]
    · rw [he, q4, map_erase, map_erase, h2]
    · intro e h6
      rw [he] at h6
      exact h3 e (List.mem_of_mem_eraseIdx h6)
    · rw [he, map_erase]
      exact h4.sublist (List.eraseIdx_sublist _ _)
    · intro i e p h8 h9
      rw [he] at h8
      rw [q4] at h9
      obtain ⟨i1, h10, e1⟩ := erase_at h8
      obtain ⟨i2, h11, e2⟩ := erase_at h9
      have : i1 = i2 := by rw [e1, e2]
      subst this
      exact h7 i1 e p h10 h11
end
theorem Mine.rd {α : Type} {K : Kd α} {e : TypeId} {S : Nat → Prop} {w : World} {A : Option Addr} {n c : Nat} {xs : List α} (hF : Flat K) (h : Mine K e S 0 0 w (.slice A n c) xs) : n ≤ c ∧ Sl K 0 w.heap.size w A n xs := by
  obtain ⟨A', c', he, hc, hs⟩ := h.slF hF 0 (fun _ _ => Nat.zero_le _)
  injection he with h1 h2 h3
  subst h1 h2 h3
  exact ⟨hc, hs⟩
section
variable {P : Program} {ρ : Operand → Value} {w : World} {dst : Option Tmp} {ty : TypeId} {pos : String} {aft : Array Edge} {g : Option (Nat × Bool)}
theorem minII {s x : Operand} {ts : Array TypeId} {k k' : IntKind} {a b : Int} (hs : ρ s = .int k a) (hx : ρ x = .int k' b) : Does P ⟨dst, .call ⟨.builtin .min, #[s, x], ts⟩, ty, pos, aft, g⟩ ρ w (.int k (if b < a then b else a)) w :=
  does_run rfl (by simp only [execOp, resolve, invoke, builtin, List.map_toArray, List.map_cons, List.map_nil, hs, hx]; simp [Builtin.min_, Builtin.min2])
theorem maxII {s x : Operand} {ts : Array TypeId} {k k' : IntKind} {a b c : Int} (hs : ρ s = .int k a) (hx : ρ x = .int k' b) (hc : (if b > a then b else a) = c) : Does P ⟨dst, .call ⟨.builtin .max, #[s, x], ts⟩, ty, pos, aft, g⟩ ρ w (.int k c) w :=
  does_run rfl (by subst hc; simp only [execOp, resolve, invoke, builtin, List.map_toArray, List.map_cons, List.map_nil, hs, hx]; simp [Builtin.max_, Builtin.max2])
end
section
variable {P : Program} {ρ : Operand → Value} {w : World} {dst : Option Tmp} {ty : TypeId} {pos : String} {aft : Array Edge} {g : Option (Nat × Bool)}
variable {α : Type} {K : Kd α} {e T : TypeId} {S : Nat → Prop}
theorem copyM {x y : Operand} {p n c m c2 : Nat} {A A2 : Option Addr} {xs ys : List α} {lo hi : Nat} {U : TypeId} (hF : Flat K) (hp : 0 < K.sz) (hT : P.underlying T = some (.slice e)) (hs : ∀ w, (sizeOf e).run P w = .ok K.sz w)
    (hx : ρ x = .slice (if p + m = p then A else A.map (·.add (p * K.sz))) m m) (hy : ρ y = .slice A2 m c2) (hM : Mine K e S 0 0 w (.slice A n c) xs) (hpm : p + m ≤ n) (hS : Sl K lo hi w A2 m ys) :
    DoesE P ⟨dst, .call ⟨.builtin .copy, #[x, y], #[T, U]⟩, ty, pos, aft, g⟩ ρ w fun v w' => v = .int .i64 (m : Int) ∧ Mine K e S 0 0 w' (.slice A n c) (xs.take p ++ ys ++ xs.drop (p + m)) ∧ Ext S w w' ∧ w'.heap.size = w.heap.size := by
  have hyl := hS.len
  rcases Nat.eq_zero_or_pos m with h0 | h0
  · subst h0
    have hys : ys = [] := List.eq_nil_of_length_eq_zero hyl
    subst hys
    refine (does_run (v := .int .i64 ((0 : Nat) : Int)) (w' := w) rfl ?_).e ⟨rfl, ?_, Ext.refl _ _, rfl⟩
    · have hfc : (Builtin.firstCells K.sz 0 (.slice A2 0 c2)).run P w = .ok #[] w := by
        cases A2 with
        | none => rfl
        | some a =>
          have := run_loadCells_list (P := P) w a [] (fun j u hu => by simp at hu)
          simpa [Builtin.firstCells] using this
      simp only [execOp, resolve, invoke, builtin, List.map_toArray, List.map_cons, List.map_nil, hx, hy]
      cases A with
      | none => simp [Builtin.copy_, run_underlying hT, Builtin.lenOf, hs, hfc, goInt, storeCells]
      | some a => simp [Builtin.copy_, run_underlying hT, Builtin.lenOf, hs, hfc, goInt, storeCells]
    · simpa using hM
  · rcases hM.full hp with ⟨h1, _⟩ | ⟨b, ch, rfl, hSb, hFu⟩
    · omega
    have hcl := hFu.len
    have hle := hFu.le
    have hx2 : ρ x = .slice (some ⟨b, p * K.sz, none⟩) m m := by
      rw [hx, if_neg Zz]
      simp [add_mk]
    refine (copyE (m := m) hF hT hs hx2 hy (by simp) hFu.blk hFu.chk Zz hS).mono ?_
    rintro v w' ⟨zs, h1, h2, h3, h4, h5, h6⟩
    have hzl : zs.length = m := by rw [← h2.len]; exact hyl
    refine ⟨h1, Full.mine ⟨h3, h4, ?_, hFu.cap, hle, ?_, hp⟩ hSb, h5.mono (fun k _ hk => by rw [show k = b from hk]; exact hSb), h6⟩
    · simp only [List.length_append, List.length_take, List.length_drop, hzl, hcl]; omega
    · have e1 : (ch.take p ++ zs ++ ch.drop (p + m)).take n = (ch.take n).take p ++ zs ++ (ch.take n).drop (p + m) := by
        rw [List.take_take, Nat.min_eq_left (show p ≤ n by omega), List.drop_take]
        have h7 : (ch.take p ++ zs).length = p + m := by rw [List.length_append, List.length_take, hzl]; omega
        rw [List.take_append, List.take_of_length_le Zz, h7]
      rw [e1]
      exact (((hFu.rep.takeC p).app (h2.flat hF)).app (hFu.rep.dropC (p + m))).flat hF
theorem cut3N {x l h mx : Operand} {sz : Nat} {A : Option Addr} {n c p m : Nat} {kl kh km : IntKind} (hT : P.underlying T = some (.slice e)) (hs : ∀ w, (sizeOf e).run P w = .ok sz w) (hx : ρ x = .slice A n c) (hl : ρ l = .int kl (p : Int)) (hh : ρ h = .int kh ((p + m : Nat) : Int)) (hm : ρ mx = .int km ((p + m : Nat) : Int)) (h0 : p + m ≤ c) :
    Does P ⟨dst, .slice T x (some l) (some h) (some mx), ty, pos, aft, g⟩ ρ w (.slice (if p + m = p then A else A.map (·.add (p * sz))) m m) w := by
  have := cut3E (P := P) (ρ := ρ) (w := w) (dst := dst) (ty := ty) (pos := pos) (aft := aft) (g := g) hT hs hx hl hh hm ⟨by omega, by omega, by omega, by omega⟩
  rw [Int.toNat_natCast, Int.toNat_natCast, show p + m - p = m by omega] at this
  exact this
end
def Row {α : Type} (K : Kd α) (e : TypeId) (S : Nat → Prop) (lo hi : Nat) (w : World) (v : Value) (xs : List α) : Prop := ∃ A n c c0, v = .slice A n c ∧ n ≤ c ∧ c ≤ c0 ∧ Mine K e S lo hi w (.slice A n c0) xs
section
variable {α : Type} {K : Kd α} {e : TypeId} {S T : Nat → Prop} {lo hi : Nat} {w w' : World} {v : Value} {xs : List α}
theorem Row.of (h : Mine K e S lo hi w v xs) : Row K e S lo hi w v xs := by
  obtain ⟨A, c, rfl, hc, _⟩ := h.slice
  exact ⟨A, xs.length, c, c, rfl, hc, Nat.le_refl _, h⟩
theorem Row.ext (h : Row K e S lo hi w v xs) (x : Ext T w w') (hT : ∀ k, lo ≤ k → k < hi → ¬ T k) (hS : ∀ k, S k → ¬ T k) : Row K e S lo hi w' v xs := let ⟨A, n, c, c0, h1, h2, h3, h4⟩ := h; ⟨A, n, c, c0, h1, h2, h3, h4.ext x hT hS⟩
theorem Row.keep (h : Row K e S lo hi w v xs) (x : Keep w w') : Row K e S lo hi w' v xs := let ⟨A, n, c, c0, h1, h2, h3, h4⟩ := h; ⟨A, n, c, c0, h1, h2, h3, h4.keep x⟩
theorem Row.mono (h : Row K e S lo hi w v xs) (hS : ∀ k, k < w.heap.size → S k → T k) : Row K e T lo hi w v xs := let ⟨A, n, c, c0, h1, h2, h3, h4⟩ := h; ⟨A, n, c, c0, h1, h2, h3, h4.mono hS⟩
theorem Row.slice (h : Row K e S lo hi w v xs) : ∃ A c, v = .slice A xs.length c ∧ xs.length ≤ c ∧ xs.length ≤ 9223372036854775807 := by
  obtain ⟨A, n, c, c0, rfl, h2, h3, h4⟩ := h
  have := h4.len
  subst this
  obtain ⟨_, _, _, _, h5⟩ := h4.slice
  exact ⟨A, c, rfl, h2, h5⟩
theorem Row.len {A : Option Addr} {n c : Nat} (h : Row K e S lo hi w (.slice A n c) xs) : xs.length = n := by
  obtain ⟨A', n', c', c0, he, h2, h3, h4⟩ := h
  injection he with e1 e2 e3
  rw [e2]; exact h4.len
theorem Row.rd {A : Option Addr} {n c : Nat} (hF : Flat K) (h : Row K e S 0 0 w (.slice A n c) xs) : n ≤ c ∧ Sl K 0 w.heap.size w A n xs := by
  obtain ⟨A', n', c', c0, he, h2, h3, h4⟩ := h
  injection he with e1 e2 e3
  subst e1 e2 e3
  exact ⟨h2, (h4.rd hF).2⟩
theorem Row.slF (hF : Flat K) (h : Row K e S 0 0 w v xs) (lo' : Nat) (hS : ∀ k, S k → lo' ≤ k) : ∃ A c, v = .slice A xs.length c ∧ xs.length ≤ c ∧ Sl K lo' w.heap.size w A xs.length xs := by
  obtain ⟨A, n, c, c0, rfl, h2, h3, h4⟩ := h
  obtain ⟨A', c', e1, h5, h6⟩ := h4.slF hF lo' hS
  injection e1 with q1 q2 q3
  subst q1 q2 q3
  exact ⟨_, c, rfl, h2, h6⟩
theorem Row.cap {A : Option Addr} {n c : Nat} (h : Row K e S lo hi w (.slice A n c) xs) (m c' : Nat) (hm : m ≤ n) (hc : m ≤ c') (hc' : c' ≤ c) : Row K e S lo hi w (.slice A m c') (xs.take m) := by
  obtain ⟨A', n', c2, c0, he, h2, h3, h4⟩ := h
  injection he with e1 e2 e3
  subst e1 e2 e3
  exact ⟨A, m, c', c0, rfl, hc, by omega, h4.take m hm⟩
end
section
variable {P : Program} {ρ : Operand → Value} {w : World} {dst : Option Tmp} {ty : TypeId} {pos : String} {aft : Array Edge} {g : Option (Nat × Bool)}
theorem copyR {α : Type} {K : Kd α} {e T : TypeId} {S : Nat → Prop} {x y : Operand} {p n c m c2 : Nat} {A A2 : Option Addr} {xs ys : List α} {lo hi : Nat} {U : TypeId} (hF : Flat K) (hp : 0 < K.sz) (hT : P.underlying T = some (.slice e)) (hs : ∀ w, (sizeOf e).run P w = .ok K.sz w)
    (hx : ρ x = .slice (if p + m = p then A else A.map (·.add (p * K.sz))) m m) (hy : ρ y = .slice A2 m c2) (hM : Row K e S 0 0 w (.slice A n c) xs) (hpm : p + m ≤ n) (hS : Sl K lo hi w A2 m ys) :
    DoesE P ⟨dst, .call ⟨.builtin .copy, #[x, y], #[T, U]⟩, ty, pos, aft, g⟩ ρ w fun v w' => v = .int .i64 (m : Int) ∧ Row K e S 0 0 w' (.slice A n c) (xs.take p ++ ys ++ xs.drop (p + m)) ∧ Ext S w w' ∧ w'.heap.size = w.heap.size := by
  obtain ⟨A', n', c', c0, he, h2, h3, h4⟩ := hM
  injection he with e1 e2 e3
  subst e1 e2 e3
  exact (copyM hF hp hT hs hx hy h4 hpm hS).mono fun _ w' ⟨q0, q1, q2⟩ => ⟨q0, ⟨A, n, c, c0, rfl, h2, h3, q1⟩, q2⟩
theorem appMkR {T U e : TypeId} {S : Nat → Prop} {s x : Operand} {v : Value} {xs : List UInt8} {n : Int} (hT : P.underlying T = some (.slice e)) (hU : P.underlying U = some (.int .i64)) (hI : ByteInfo P e) (hs : ρ s = v) (hx : ρ x = .int .i64 n) (h0 : 0 ≤ n) (hO : Row KB e S 0 0 w v xs) (hmax : xs.length + n.toNat ≤ 140737488355328) (hfr : ∀ k, w.heap.size ≤ k → S k) :
    DoesE P ⟨dst, .call ⟨.builtin .append, #[s, x], #[T, U]⟩, ty, pos, aft, g⟩ ρ w fun v' w' => Row KB e S 0 0 w' v' (xs ++ List.replicate n.toNat 0) ∧ Ext S w w' := by
  obtain ⟨i, h1, h2, h3, h4⟩ := hI
  obtain ⟨m, rfl⟩ := Int.eq_ofNat_of_zero_le h0
  rw [Int.toNat_natCast] at hmax ⊢
  obtain ⟨A0, n0, cap, c0, rfl, hn0c, hcc0, ⟨b, ⟨⟨cs, hr, hrow0⟩, hbb⟩, hb⟩⟩ := hO
  have hrow : w.ownsRow 0 e 1 (.slice A0 n0 c0) xs.length cs := hrow0
  have hw : IntKind.i64.wrap (m : Int) = (m : Int) := w_i64 Zz
  have hneg : ¬ ((m : Int) < 0) := by omega
  have h48 : ¬ ((281474976710656 : Int) < (m : Int)) := by omega
  have hzc := zeroCells_list
  have hw0 : IntKind.i64.wrap 0 = 0 := by decide
  have key : ∃ v1 w1 v2, (Builtin.append_ #[T, U] ty #[.slice A0 n0 cap, .int .i64 (m : Int)]).run P w = .ok v1 w1 ∧ w1.ownsRow 0 e 1 v2 (xs.length + m) (cs ++ List.replicate m (.int .u8 0)) ∧ w.grownBy w1 (Value.slice A0 n0 c0).ownBlock ∧ (v2.ownBlock = (Value.slice A0 n0 c0).ownBlock ∨ v2.ownBlock = some w.heap.size) ∧ ∃ A1 n1 c1 c2, v1 = .slice A1 n1 c1 ∧ v2 = .slice A1 n1 c2 ∧ n1 ≤ c1 ∧ c1 ≤ c2 := by
    have hcl : cs.length = xs.length := by have := hrow.1; omega
    rcases hrow.2 with ⟨h00, hn0⟩ | ⟨g', cap', cur, he, hbg, hg, hnc, hcm, hcs, htake⟩
    · injection h00 with e1 e2 e3
      subst e1 e2 e3
      have hcap0 : cap = 0 := by omega
      subst hcap0
      have hcs0 : cs = [] := List.eq_nil_of_length_eq_zero Zz
      subst hcs0
      by_cases hm : m = 0
      · subst hm
        refine ⟨.slice none 0 0, w, .slice none 0 0, ?_, by simpa using hrow, World.grownBy.refl w _, .inl rfl, none, 0, 0, 0, rfl, rfl, Nat.le_refl _, Nat.le_refl _⟩
        simp [Builtin.append_, run_underlying hT, run_underlying hU, sizeOf, typeInfo, h1, h4, asInt, asIntOf, hw0]
      · have h48' : ¬ (281474976710656 < Builtin.nextslicecap m 0 * i.bytes) := by rw [nextslicecap_zero Zz, h4]; omega
        have h63' : ¬ (9223372036854775807 < (m : Int)) := by omega
        have hge := grownCap_ge w m 0 e
        refine ⟨.slice (some ⟨w.heap.size, 0, none⟩) m (grownCap w m 0 e), w.drew.alloc (.cells (Builtin.zeroCells #[.int .u8 0] m ++ Builtin.zeroCells #[.int .u8 0] (grownCap w m 0 e - m)) e), _, ?_, ⟨by simp [hn0], .inr ⟨w.heap.size, _, _, by rw [hn0, Nat.zero_add], Nat.zero_le _, heap_alloc_new w.drew _, by omega, grownCap_le_maxLen w m 0 e (by simp only [maxLen]; omega), ?_, ?_⟩⟩, ⟨rfl, rfl, rfl, by simp, fun k hk _ => heap_alloc_old w.drew _ (h := hk)⟩, .inr rfl, _, _, _, _, rfl, rfl, hge, Nat.le_refl _⟩
        · have hms : m * i.size ≠ 0 := by rw [h3]; omega
          simp [Builtin.append_, run_underlying hT, run_underlying hU, sizeOf, typeInfo, zeroValue, h1, h2, h4, hm, hms, h63', h48', h48, hneg, hw, asInt, asIntOf, Question.forced, run_firstCells_none, newRow, grownCap, Value.cells]
          simp [h4] at h48'
          omega
        · rw [Array.size_append, size_zeroCells, size_zeroCells]; simp; omega
        · rw [Array.toList_append, hzc, hn0]; simp
    · injection he with e1 e2 e3
      subst e1 e2 e3
      by_cases hroom : xs.length + m ≤ cap
      · have hfit : xs.length + m ≤ cur.size := by omega
        have hst := run_storeCells_at P g' xs.length e (List.replicate m (.int .u8 0)) 0 cur w hg (by simpa using hfit) (by intro u hu; rw [(List.mem_replicate.1 hu).2]; rfl)
        simp only [Nat.add_zero] at hst
        refine ⟨.slice (some ⟨g', 0, none⟩) (xs.length + m) cap, w.setRow g' (cur.toList.take xs.length ++ List.replicate m (Value.int .u8 0) ++ cur.toList.drop (xs.length + (List.replicate m (Value.int .u8 0)).length)).toArray, .slice (some ⟨g', 0, none⟩) (xs.length + m) c0, ?_, ⟨by simp [hcl], .inr ⟨g', c0, _, rfl, hbg, setRow_heap w g' cur _ e _ hg, by omega, hcm, ?_, ?_⟩⟩, ⟨rfl, rfl, rfl, by simp, fun k _ hk => setRow_other w g' k _ (fun e => hk (by simp [Value.ownBlock, e]))⟩, .inl rfl, _, _, _, _, rfl, rfl, hroom, hcc0⟩
        · by_cases hm : m = 0
          · subst hm
            have := setRow_self w g' cur e (0, 0) hg
            simp [Builtin.append_, run_underlying hT, run_underlying hU, sizeOf, typeInfo, h1, h4, asInt, asIntOf, hw0, hn0c, storeCells, this]
          · have hms : m * i.size ≠ 0 := by rw [h3]; omega
            have hst' := hst
            simp only [List.length_replicate] at hst' ⊢
            simp [Builtin.append_, run_underlying hT, run_underlying hU, sizeOf, typeInfo, zeroValue, h1, h2, h3, h4, hm, hms, hroom, h48, hneg, hw, asInt, asIntOf, Addr.add_lit, Value.cells, hzc, hst']
        · simp only [List.size_toArray, List.length_append, List.length_take, List.length_drop, Array.length_toList, List.length_replicate]
          omega
        · have ht2 : cur.toList.take xs.length = cs := by simpa using htake
          rw [ht2]
          have hl2 : (cs ++ List.replicate m (Value.int .u8 0)).length = (xs.length + m) * 1 := by simp [hcl]
          rw [← hl2]
          exact List.take_left
      · have hm : m ≠ 0 := by omega
        have hms : m * i.size ≠ 0 := by rw [h3]; omega
        have hf := run_firstCells_some (P := P) w.drew 1 xs.length ⟨g', 0, none⟩ xs.length cap cs Zz (by intro j u hu; have := hrow.cells (g := g') rfl j u hu; simpa using this)
        have h48' : ¬ (281474976710656 < Builtin.nextslicecap (xs.length + m) cap * i.bytes) := Nat.not_lt.2 (growslice_fits Zz (by rw [h4]; omega))
        have h63' : ¬ (9223372036854775807 < ((xs.length + m : Nat) : Int)) := by omega
        have hge := grownCap_ge w (xs.length + m) cap e
        refine ⟨.slice (some ⟨w.heap.size, 0, none⟩) (xs.length + m) (grownCap w (xs.length + m) cap e), w.drew.alloc (.cells (cs.toArray ++ Builtin.zeroCells #[.int .u8 0] m ++ Builtin.zeroCells #[.int .u8 0] (grownCap w (xs.length + m) cap e - (xs.length + m))) e), _, ?_, ⟨by simp [hcl], .inr ⟨w.heap.size, _, _, rfl, Nat.zero_le _, heap_alloc_new w.drew _, by omega, grownCap_le_maxLen w _ cap e (by simp only [maxLen]; omega), ?_, ?_⟩⟩, ⟨rfl, rfl, rfl, by simp, fun k hk _ => heap_alloc_old w.drew _ (h := hk)⟩, .inr rfl, _, _, _, _, rfl, rfl, hge, Nat.le_refl _⟩
        · have hms1 : ¬ (m * 1 = 0) := by omega
          have h63'' : ¬ ((9223372036854775807 : Int) < (xs.length : Int) + (m : Int)) := by omega
          have h48'' : ¬ (281474976710656 < Builtin.nextslicecap (xs.length + m) cap) := by rw [h4, Nat.mul_one] at h48'; exact h48'
          simp [Builtin.append_, run_underlying hT, run_underlying hU, sizeOf, typeInfo, zeroValue, h1, h2, h3, h4, hm, hms, hroom, h48, h63'', h48'', hneg, hw, asInt, asIntOf, Question.forced, hf, newRow, grownCap, Value.cells]
        · simp only [Array.size_append, size_zeroCells, List.size_toArray]; simp; omega
        · simp only [Array.toList_append, hzc]
          have hl2 : (cs ++ List.replicate m (Value.int .u8 0)).length = (xs.length + m) * 1 := by simp [hcl]
          rw [← hl2]
          exact List.take_left
  obtain ⟨v1, w1, v2, hrun, hown, hg, hat, A1, n1, c1, c2, rfl, rfl, hnc1, hcc1⟩ := key
  have hext : Ext S w w1 := (Ext.of_grown hg).mono fun k _ hk => hb k (by rw [← hbb]; exact hk)
  refine (does_run (w' := w1) rfl (by simp only [execOp, resolve, invoke, builtin, List.map_toArray, List.map_cons, List.map_nil, hs, hx]; simp [hrun])).e ⟨⟨A1, n1, c1, c2, rfl, hnc1, hcc1, (Value.slice A1 n1 c2).ownBlock, ⟨⟨_, Reps.app (hr.flat KB_flat) (reps_zero 0 0 w1 m), by rw [List.length_append, List.length_replicate]; exact hown⟩, rfl⟩, ?_⟩, hext⟩
  intro k hk
  rcases hat with hat | hat
  · exact hb k (by rw [← hbb, ← hat]; exact hk)
  · rw [hat] at hk
    cases hk
    exact hfr _ (Nat.le_refl _)
end
end Go.Proofs.YtjjhddjllpihaaaGreatDoor.X
namespace Go.Proofs.YtjjhddjllpihaaaGreatDoor
open Go Go.Proofs.YtjjhddjllpihaaaGreatDoor.X
abbrev ptrV (b : Nat) : Value := .pointer (some ⟨b, 0, none⟩)
abbrev dkL (rm : Int) (bf : Option Nat) (mk : Int) (bd bx : Option Nat) (A : Option Addr) (n c : Nat) (bl : Option Nat) (fu : Bool) (lf : Int) : List Value := [.int .i64 rm, .map bf, .int .i64 mk, .map bd, .map bx, .slice A n c, .map bl, .bool fu, .int .i64 lf]
def Nob (w : World) (p : Option Addr) : Prop := p = none ∨ ∃ b, p = some ⟨b, 0, none⟩ ∧ Blk w b (dkL 0 none 0 none none none 0 0 none false 0) 80
theorem Nob.keep {w w' : World} {p : Option Addr} (h : Nob w p) (k : Keep w w') : Nob w' p := h.imp id fun ⟨b, e, h⟩ => ⟨b, e, h.keep k⟩
theorem is_c {b : Nat} {rm mk lf : Int} {bf bx bl : Option Nat} {bd : Nat} {A : Option Addr} {n c : Nat} {fu : Bool} (w : World) (hB : Blk w b (dkL rm bf mk (some bd) bx A n c bl fu lf) 80) : Ret Tryz.prog 51 #[ptrV b] w fun r w' => r = .bool true ∧ Keep w w' := by
 refine X.enter Tryz.func51 rfl Tryz.ntmps51 rfl<|Zs<|Zr<|Zoa rfl rfl<|Ze<|Zs<|Zr<|Zom rfl rfl<|Zo (X.nePtrN (A := some _) Tryz.underlying24 rfl rfl) rfl<|Zomt rfl rfl<|Zg (X.move rfl) rfl rfl rfl rfl<|Zg (X.nilCk rfl) rfl rfl rfl rfl<|Zg (X.fldB (j := 3) Zu80 rfl rfl Zs76 rfl) rfl rfl rfl rfl<|Zg (X.load1B Zi76 hB rfl rfl) rfl rfl rfl rfl<|Zg (X.neMap1 Zu76 rfl rfl) rfl rfl rfl rfl<|Zo (ZdTt rfl rfl) rfl<|Zoat rfl rfl<|Ze<|X.ret1 (v := (.bool _)) Tryz.func51 Tryz.results51 rfl ?_
 exact ⟨rfl, (Keep.refl _)⟩
theorem Down_c {b bd : Nat} {rm mk lf : Int} {bf bx bl : Option Nat} {A : Option Addr} {n c : Nat} {fu : Bool} (w : World) (hB : Blk w b (dkL rm bf mk (some bd) bx A n c bl fu lf) 80) : Ret Tryz.prog 120 #[ptrV b] w fun r w' => r = .bool (fu && decide (lf ≤ 0)) ∧ Keep w w' := by
 refine X.enter Tryz.func120 rfl Tryz.ntmps120 rfl<|Zs<|Zr<|Zoa rfl rfl<|Ze<|Zs<|Zr<|Zom rfl rfl<|Zc (X.callE (is_c _ hB) Zc51 rfl rfl) rfl ?_
 rintro _ w1 ⟨rfl, hk1⟩
 have hk1' := hk1.size
 refine Zomt rfl rfl<|Zg (X.move rfl) rfl rfl rfl rfl<|Zg (X.nilCk rfl) rfl rfl rfl rfl<|Zg (X.fldB (j := 7) Zu80 rfl rfl Tryz.sizeOf4 rfl) rfl rfl rfl rfl<|Zg (X.load1B Tryz.isAgg4 (hB.keep hk1) rfl rfl) rfl rfl rfl rfl<|Zo (ZdTo rfl rfl) rfl<|Zomo rfl rfl<|X.forkO 11 rfl (fun h11 => ?_) (fun h11 => ?_)
 ·refine Zg (X.move rfl) rfl rfl rfl rfl<|Zg (X.nilCk rfl) rfl rfl rfl rfl<|Zg (X.fldB (j := 8) Zu80 rfl rfl Zs3 rfl) rfl rfl rfl rfl<|Zg (X.load1B Zi3 (hB.keep hk1) rfl rfl) rfl rfl rfl rfl<|Zg (X.leq rfl rfl) rfl rfl rfl rfl<|Zo (ZdTo rfl rfl) rfl<|Zoao rfl rfl<|Ze<|X.ret1 (v := (.bool _)) Tryz.func120 Tryz.results120 rfl ?_
  refine ⟨?_, hk1⟩
  first | rfl | simp_all
 ·refine Zp rfl rfl rfl<|Zp rfl rfl rfl<|Zp rfl rfl rfl<|Zp rfl rfl rfl<|Zp rfl rfl rfl<|Zo (ZdFf rfl rfl) rfl<|Zoaf rfl rfl<|Ze<|X.ret1 (v := (.bool _)) Tryz.func120 Tryz.results120 rfl ?_
  refine ⟨?_, hk1⟩
  first | rfl | simp_all
theorem may_c_disk {b bd : Nat} {rm mk lf : Int} {bf bx bl : Option Nat} {A : Option Addr} {n c : Nat} {fu : Bool} (w : World) (hB : Blk w b (dkL rm bf mk (some bd) bx A n c bl fu lf) 80) : Ret Tryz.prog 68 #[ptrV b] w fun r w' => r = .int .i64 (if (fu && decide (lf ≤ 0)) = true then 54 else 0) ∧ Keep w w' := by
 refine X.enter Zf68 rfl Tryz.ntmps68 rfl<|Zs<|Zr<|Zoa rfl rfl<|Ze<|Zs<|Zb<|Zs<|Zr<|Zom rfl rfl<|Zc (X.callE (is_c _ hB) Zc51 rfl rfl) rfl ?_
 rintro _ w1 ⟨rfl, hk1⟩
 have hk1' := hk1.size
 refine Zo (X.not_ rfl) rfl<|Zoaf rfl rfl<|Ze<|Zf rfl<|Zs<|Zr<|Zom rfl rfl<|Zc (X.callE (Down_c _ (hB.keep hk1)) Tryz.call120 rfl rfl) rfl ?_
 rintro _ w2 ⟨rfl, hk2⟩
 have hk2' := hk2.size
 refine Zoao rfl rfl<|Ze<|X.condB rfl (fun hc => ?_) (fun hc => ?_)
 ·refine Zs<|Zr<|Zoa rfl rfl<|Ze<|X.ret1 (v := (.int .i64 _)) Zf68 Tryz.results68 rfl ?_
  exact ⟨by rw [if_pos hc], (hk1.trans hk2)⟩
 ·refine Zk<|Zi<|Zs<|Zr<|Zoa rfl rfl<|Ze<|X.ret1 (v := (.int .i64 _)) Zf68 Tryz.results68 rfl ?_
  exact ⟨by rw [if_neg (by simpa using hc)], (hk1.trans hk2)⟩
theorem did_c {b bd : Nat} {rm mk lf : Int} {bf bx bl : Option Nat} {A : Option Addr} {n c : Nat} {fu : Bool} (w : World) (hB : Blk w b (dkL rm bf mk (some bd) bx A n c bl fu lf) 80) (hlf : -1000000000 ≤ lf ∧ lf ≤ 1000000000) : Ret Tryz.prog 71 #[ptrV b] w fun r w' => r = .int .i64 0 ∧ Blk w' b (dkL rm bf mk (some bd) bx A n c bl fu (if fu = true then lf - 1 else lf)) 80 ∧ Ext (fun q => q = b) w w' := by
 refine X.enter Zf71 rfl Tryz.ntmps71 rfl<|Zs<|Zr<|Zoa rfl rfl<|Ze<|Zs<|Zs<|Zr<|Zom rfl rfl<|Zo (X.nilCk rfl) rfl<|Zo (X.fldB (j := 7) Zu80 rfl rfl Tryz.sizeOf4 rfl) rfl<|Zo (X.load1B Tryz.isAgg4 hB rfl rfl) rfl<|Ze<|X.condB rfl (fun hc => ?_) (fun hc => ?_)
 ·refine Zr<|Zom rfl rfl<|Zo (X.nilCk rfl) rfl<|Zo (X.fldB (j := 8) Zu80 rfl rfl Zs3 rfl) rfl<|Zo (X.load1B Zi3 hB rfl rfl) rfl<|Zo (X.sub rfl rfl (X.w_i64 Zz)) rfl<|Zo (X.nilCk rfl) rfl<|Zo (X.fldB (j := 8) Zu80 rfl rfl Zs3 rfl) rfl<|Zc (X.storeE Zs3 hB rfl rfl rfl rfl) rfl ?_
  rintro _ w1 ⟨hB1, hx1, hz1⟩
  refine Ze<|Zs<|Zr<|Zoa rfl rfl<|Ze<|X.ret1 (v := (.int .i64 _)) Zf71 Tryz.results71 rfl ?_
  rw [if_pos hc]
  exact ⟨rfl, hB1, (Ext.andThen (Ext.refl (fun q => q = b) _) hx1 zq33)⟩
 ·refine Zk<|Zs<|Zr<|Zoa rfl rfl<|Ze<|X.ret1 (v := (.int .i64 _)) Zf71 Tryz.results71 rfl ?_
  rw [if_neg (by simpa using hc)]
  exact ⟨rfl, hB, (Ext.refl (fun q => q = b) _)⟩
theorem right_c (nm : ByteArray) (w : World) (hs : nm.size ≤ 9223372036854775807) : Ret Tryz.prog 69 #[.string nm] w fun r w' => r = .bool (decide (nm ≠ ⟨#[]⟩ ∧ nm.size ≤ 64)) ∧ Keep w w' := by
 refine X.enter Zf69 rfl Tryz.ntmps69 rfl<|Zs<|Zr<|Zoa rfl rfl<|Ze<|Zs<|Zr<|Zomg rfl rfl<|X.opP X.wN rfl rfl (X.neD rfl rfl) (fun h4 => ?_) (fun h4 => ?_)
 ·refine Zomt rfl rfl<|Zg (Zdmg rfl) rfl rfl rfl rfl<|Zg (X.lenS Zu9 rfl) rfl rfl rfl rfl<|Zg (X.leq rfl rfl) rfl rfl rfl rfl<|Zo (ZdTo rfl rfl) rfl<|Zoao rfl rfl<|Ze<|X.ret1 (v := (.bool _)) Zf69 Tryz.results69 rfl ?_
  refine ⟨?_, (Keep.refl _)⟩
  congr 1
  first | (rw [decide_eq_decide]; exact ⟨fun h => ⟨by assumption, by omega⟩, fun h => by have := h.2; omega⟩) | exact (decide_eq_false (fun h => absurd h.1 (by assumption))).symm | simp_all
 ·refine Zomf rfl rfl<|Zp rfl rfl rfl<|Zp rfl rfl rfl<|Zp rfl rfl rfl<|Zo (ZdFf rfl rfl) rfl<|Zoaf rfl rfl<|Ze<|X.ret1 (v := (.bool _)) Zf69 Tryz.results69 rfl ?_
  refine ⟨?_, (Keep.refl _)⟩
  congr 1
  first | (rw [decide_eq_decide]; exact ⟨fun h => ⟨by assumption, by omega⟩, fun h => by have := h.2; omega⟩) | exact (decide_eq_false (fun h => absurd h.1 (by assumption))).symm | simp_all
theorem sectors_c (n : Nat) (w : World) (hn : n ≤ 1000000000) : Ret Tryz.prog 73 #[.int .i64 (n : Int)] w fun r w' => r = .int .i64 (((n + 63) / 64 : Nat) : Int) ∧ Keep w w' := by
 refine X.enter Tryz.func73 rfl Tryz.ntmps73 rfl<|Zs<|Zr<|Zoa rfl rfl<|Ze<|Zs<|Zr<|Zomi rfl rfl<|Zo (X.add rfl rfl (X.w_i64 Zz)) rfl<|Zo (X.sub rfl rfl (X.w_i64 Zz)) rfl<|Zo (X.quo (c := (((n + 63) / 64 : Nat) : Int)) rfl rfl (by decide) (by rw [show ((n : Int) + 64 - 1).tdiv 64 = (((n + 63) / 64 : Nat) : Int) by rw [show (n : Int) + 64 - 1 = ((n + 63 : Nat) : Int) by omega]; rfl]; exact X.w_i64 Zz)) rfl ?_
 refine Zoai rfl rfl<|Ze<|X.ret1 (v := (.int .i64 _)) Tryz.func73 Tryz.results73 rfl ?_
 exact ⟨rfl, (Keep.refl _)⟩
abbrev CHG := ByteArray × ByteArray × Int
abbrev DIR := List (ByteArray × Int)
abbrev evCh (c : CHG) : Value := .agg #[.string c.1, .string c.2.1, .int .i64 c.2.2]
abbrev MPD (w : World) (b : Nat) (d : DIR) : Prop := MpV (fun x : ByteArray => Value.string x) (fun v : Int => Value.int .i64 v) w b d
def trn (c : CHG) (d : DIR) : DIR := (fun e => if c.2.1 = ⟨#[]⟩ then e else put c.2.1 c.2.2 e) (if c.1 = ⟨#[]⟩ then d else del c.1 d)
theorem MPD.nd {w : World} {b : Nat} {d : DIR} (h : MPD w b d) : (d.map (·.1)).Nodup := by
  have := h.nodup
  rw [mv, List.map_map] at this
  exact this
theorem turn_c {b : Nat} {d : DIR} (c : CHG) (w : World) (hG : MPD w b d) : Ret Tryz.prog 121 #[.map (some b), evCh c] w fun r w' => r = .tuple #[] ∧ MPD w' b (trn c d) ∧ Ext (fun q => q = b) w w' := by
 have hb := hG.lt
 refine X.enter Zf121 rfl Tryz.ntmps121 rfl<|Zs<|Zr<|Zc (X.boxE rfl rfl) rfl ?_
 rintro _ w1 ⟨rfl, hB1, hk1, hz1⟩
 refine Ze<|Zs<|Zs<|Zr<|Zo (X.fldB (j := 0) Zu162 rfl rfl Zs9 rfl) rfl<|Zo (X.load1B Zi9 hB1 rfl rfl) rfl<|X.opP X.wN rfl rfl (X.neD rfl rfl) (fun h6 => ?_) (fun h6 => ?_)
 ·refine Ze<|Zt rfl<|Zr<|Zom rfl rfl<|Zo (X.fldB (j := 0) Zu162 rfl rfl Zs9 rfl) rfl<|Zo (X.load1B Zi9 hB1 rfl rfl) rfl<|Zc (X.deleteV (enc := fun x : ByteArray => Value.string x) (venc := fun v : Int => Value.int .i64 v) (a := c.1) Zu76 (keyStr Zu9) (hG.keep hk1) rfl rfl) rfl ?_
  rintro _ w2 ⟨rfl, hG2, hx2, hz2⟩
  refine Ze<|Zs<|Zr<|Zo (X.fldB (j := 1) Zu162 rfl rfl Zs9 rfl) rfl<|Zo (X.load1B Zi9 (hB1.ext hx2 (by first | (intros; (try simp only []); omega) | (intro h; have h : _ = b := h; omega))) rfl rfl) rfl ?_
  refine X.opP X.wN rfl rfl (X.neD rfl rfl) (fun h12 => ?_) (fun h12 => ?_)
  ·refine Ze<|Zt rfl<|Zr<|Zom rfl rfl<|Zo (X.fldB (j := 1) Zu162 rfl rfl Zs9 rfl) rfl<|Zo (X.load1B Zi9 (hB1.ext hx2 (by first | (intros; (try simp only []); omega) | (intro h; have h : _ = b := h; omega))) rfl rfl) rfl ?_
   refine Zo (X.fldB (j := 2) Zu162 rfl rfl Zs3 rfl) rfl<|Zo (X.load1B Zi3 (hB1.ext hx2 (by first | (intros; (try simp only []); omega) | (intro h; have h : _ = b := h; omega))) rfl rfl) rfl ?_
   refine Zc (X.updateV (enc := fun x : ByteArray => Value.string x) (venc := fun v : Int => Value.int .i64 v) (v := c.2.2) Zu76 (keyStr Zu9) hG2 rfl rfl rfl) rfl ?_
   rintro _ w3 ⟨hG3, hx3, hz3⟩
   refine Ze<|X.end0 Zf121 Zr121 ?_
   have e1 : ¬ c.1 = ⟨#[]⟩ := by first | exact h6 | simpa using h6
   have e2 : ¬ c.2.1 = ⟨#[]⟩ := by first | exact h12 | simpa using h12
   refine ⟨rfl, ?_, (Ext.andThen (Ext.andThen (Ext.andThen (Ext.refl (fun q => q = b) _) hk1 zq33) hx2 zq33) hx3 zq33)⟩
   simp only [trn, if_neg e1, if_neg e2]
   exact hG3
  ·refine Ze<|Zf rfl<|Zk<|X.end0 Zf121 Zr121 ?_
   have e1 : ¬ c.1 = ⟨#[]⟩ := by first | exact h6 | simpa using h6
   have e2 : c.2.1 = ⟨#[]⟩ := by first | exact h12 | simpa using h12
   refine ⟨rfl, ?_, (Ext.andThen (Ext.andThen (Ext.refl (fun q => q = b) _) hk1 zq33) hx2 zq33)⟩
   simp only [trn, if_neg e1, if_pos e2]
   exact hG2
 ·refine Ze<|Zf rfl<|Zk<|Zs<|Zr<|Zo (X.fldB (j := 1) Zu162 rfl rfl Zs9 rfl) rfl<|Zo (X.load1B Zi9 hB1 rfl rfl) rfl<|X.opP X.wN rfl rfl (X.neD rfl rfl) (fun h12 => ?_) (fun h12 => ?_)
  ·refine Ze<|Zt rfl<|Zr<|Zom rfl rfl<|Zo (X.fldB (j := 1) Zu162 rfl rfl Zs9 rfl) rfl<|Zo (X.load1B Zi9 hB1 rfl rfl) rfl<|Zo (X.fldB (j := 2) Zu162 rfl rfl Zs3 rfl) rfl<|Zo (X.load1B Zi3 hB1 rfl rfl) rfl<|Zc (X.updateV (enc := fun x : ByteArray => Value.string x) (venc := fun v : Int => Value.int .i64 v) (v := c.2.2) Zu76 (keyStr Zu9) (hG.keep hk1) rfl rfl rfl) rfl ?_
   rintro _ w4 ⟨hG4, hx4, hz4⟩
   refine Ze<|X.end0 Zf121 Zr121 ?_
   have e1 : c.1 = ⟨#[]⟩ := by first | exact h6 | simpa using h6
   have e2 : ¬ c.2.1 = ⟨#[]⟩ := by first | exact h12 | simpa using h12
   refine ⟨rfl, ?_, (Ext.andThen (Ext.andThen (Ext.refl (fun q => q = b) _) hk1 zq33) hx4 zq33)⟩
   simp only [trn, if_pos e1, if_neg e2]
   exact hG4
  ·refine Ze<|Zf rfl<|Zk<|X.end0 Zf121 Zr121 ?_
   have e1 : c.1 = ⟨#[]⟩ := by first | exact h6 | simpa using h6
   have e2 : c.2.1 = ⟨#[]⟩ := by first | exact h12 | simpa using h12
   refine ⟨rfl, ?_, (Ext.andThen (Ext.refl (fun q => q = b) _) hk1 zq33)⟩
   simp only [trn, if_pos e1, if_pos e2]
   exact (hG.keep hk1)
def KCh : Kd CHG := Kd.plain 3 (fun x => [.string x.1, .string x.2.1, .int .i64 x.2.2]) (fun _ => True) (fun _ => rfl) (fun _ u hu => by simp at hu; rcases hu with rfl | rfl | rfl <;> rfl)
theorem KCh_flat : Flat KCh := fun h => h
theorem repsCh {w : World} (x : CHG) : RepsV KCh w [x] [evCh x] := ⟨⟨_, rfl, rfl, trivial⟩, trivial⟩
theorem ECh : ElemInfo Tryz.prog 162 3 40 := ElemInfo.of (z := .agg #[.string ⟨#[]⟩, .string ⟨#[]⟩, .int .i64 0]) Zl rfl rfl rfl
theorem note_c {S : Nat → Prop} {b bd : Nat} {rm mk lf : Int} {bf bx bl : Option Nat} {A : Option Addr} {n c : Nat} {fu : Bool} {d : DIR} {chs : List CHG} (x : CHG) (w : World) (hB : Blk w b (dkL rm bf mk (some bd) bx A n c bl fu lf) 80) (hG : MPD w bd d) (hM : Mine KCh 162 S 0 0 w (.slice A n c) chs) (hbd : b ≠ bd) (hSb : ¬ S b) (hSd : ¬ S bd) (hSl : ∀ q, S q → q < w.heap.size) (hn : chs.length ≤ 100000) : Ret Tryz.prog 70 #[ptrV b, evCh x] w fun r w' => r = .tuple #[] ∧ ∃ A' n' c', Blk w' b (dkL rm bf mk (some bd) bx A' n' c' bl fu lf) 80 ∧ MPD w' bd (trn x d) ∧ Mine KCh 162 (fun q => S q ∨ (w.heap.size ≤ q ∧ q < w'.heap.size)) 0 0 w' (.slice A' n' c') (chs ++ [x]) ∧ Ext (fun q => q = b ∨ q = bd ∨ S q) w w' := by
 have hbl := hB.lt
 have hdl := hG.lt
 refine X.enter Tryz.func70 rfl Tryz.ntmps70 rfl<|Zs<|Zr<|Zc (X.boxE rfl rfl) rfl ?_
 rintro _ w1 ⟨rfl, hB1, hk1, hz1⟩
 refine Ze<|Zs<|X.regionD (fun _ => False) 5 Zl Zl (fun w2 hk2 hz2 => ?_)
 refine ZD 4 rfl Zl (fun w' hk' => X.loadNB Tryz.isAgg162 Zs162 (hB1.keep (hk2.trans hk')) rfl rfl rfl)<|X.dStep (i := 0) Zl rfl (X.dwN rfl) (X.move rfl) (fun _ => Ext.refl _ _)<|X.dStep (i := 1) Zl rfl (X.dwN rfl) (X.nilCk rfl) (fun _ => Ext.refl _ _)<|X.dStep (i := 2) Zl rfl (X.dwN rfl) (X.fldB (j := 3) Zu80 rfl rfl Zs76 rfl) (fun _ => Ext.refl _ _)<|ZD 3 rfl Zl (fun w' hk' => X.load1B Zi76 (hB.keep ((hk1.trans hk2).trans hk')) rfl rfl)<|X.dE (i := 5) Zl rfl (X.dwN rfl) (X.callE (turn_c x _ (hG.keep (hk1.trans hk2))) Tryz.call121 rfl rfl) (fun _ _ _ h => absurd h (by decide)) ?_
 rintro _ w3 ⟨rfl, hG2, hx3⟩
 have hx3' := hx3.size
 refine Zdend Zl<|X.regionD (fun q => S q ∨ w3.heap.size ≤ q) 8 Zl Zl (fun w4 hk4 hz4 => ?_)
 refine ZDc 0 rfl Zl (X.move rfl)<|ZDc 1 rfl Zl (X.move rfl)<|ZDc 2 rfl Zl (X.nilCk rfl)<|ZDc 3 rfl Zl (X.fldB (j := 5) Zu80 rfl rfl Zs78 rfl)<|ZD 4 rfl Zl (fun w' hk' => X.load1B Tryz.isAgg78 ((((hB.keep (hk1.trans hk2)).ext hx3 zq11).keep hk4).ext hk' zq11) rfl rfl) ?_
 refine ZD 5 rfl Zl (fun w' hk' => X.loadNB Tryz.isAgg162 Zs162 ((((hB1.keep hk2).ext hx3 zq11).keep hk4).ext hk' zq11) rfl rfl rfl) ?_
 refine X.dE (i := 6) Zl rfl (X.dwN rfl) (X.litKF KCh_flat (K := KCh) (xs := [Operand.tmp 15]) (vs := [evCh x]) (ys := [x]) Zu78 Zs162 Tryz.zeroValue162 rfl rfl rfl rfl rfl (repsCh x)) (by rintro _ w5 ⟨rfl, hs5, hB5, hk5, hz5⟩ _; exact hk5.mono (fun _ _ h => h.elim)) ?_
 rintro _ w5 ⟨rfl, hs5, hB5, hk5, hz5⟩
 refine X.dE (i := 7) Zl rfl (X.dwN rfl) (X.appE (K := KCh) (S := fun q => S q ∨ w3.heap.size ≤ q) KCh_flat Zu78 ECh rfl rfl (Mine.mono (T := fun q => S q ∨ w3.heap.size ≤ q) (((((hM.keep hk1).keep hk2).ext hx3 (by intros; omega) (fun q h1 h2 => by have h2 : q = bd := h2; subst h2; exact hSd h1)).keep hk4).keep hk5) (fun q _ h => .inl h)) hs5 zq15 (by intros; first | exact .inr Zz | (right; omega))) (by rintro v6 w6 ⟨hMa, hx6⟩ _; exact hx6) ?_
 rintro v6 w6 ⟨hMa, hx6⟩
 have hx6' := hx6.size
 refine X.dStep (i := 8) Zl rfl (X.dwN rfl) (X.nilCk rfl) (fun h => absurd h (by decide))<|X.dStep (i := 9) Zl rfl (X.dwN rfl) (X.fldB (j := 5) Zu80 rfl rfl Zs78 rfl) (fun h => absurd h (by decide)) ?_
 have q7 := hMa.slF KCh_flat 0 (fun _ _ => Nat.zero_le _)
 obtain ⟨A7, c7, rfl, hc7, hs7⟩ := q7
 refine X.dE (i := 10) Zl rfl (X.dwN rfl) (X.storeE Zs78 ((((hB.keep (hk1.trans hk2)).ext hx3 zq11).keep (hk4.trans hk5)).ext hx6 zq11) rfl rfl rfl rfl) (fun _ _ _ h => absurd h (by decide)) ?_
 rintro _ w8 ⟨hB8, hx8, hz8⟩
 refine Zdend Zl<|X.end0 Tryz.func70 Tryz.results70 ?_
 exact ⟨rfl, _, _, _, hB8, ((((hG2.keep hk4).keep hk5).ext hx6 (fun h => by first | exact h.elim hSd (fun h => by omega) | exact hbd h.symm | exact hbd h)).ext hx8 (fun h => by first | exact h.elim hSd (fun h => by omega) | exact hbd h.symm | exact hbd h)), ((hMa.ext hx8 (by intros; omega) (fun q h1 h2 => by have h2 : q = b := h2; subst h2; exact h1.elim hSb (fun h => by omega)))).mono (fun k hk h => h.imp id (fun h => ⟨by omega, hk⟩)), (Ext.andThen (Ext.andThen (Ext.andThen (Ext.andThen (Ext.andThen (Ext.andThen (Ext.andThen (Ext.refl (fun q => q = b ∨ q = bd ∨ S q) _) hk1 zq16) hk2 zq16) hx3 zq16) hk4 zq16) hk5 zq16) hx6 zq16) hx8 zq16)⟩
abbrev MPF (w : World) (b : Nat) (d : List (Int × Value)) : Prop := MpV (fun x : Int => Value.int .i64 x) (fun v : Value => v) w b d
abbrev MPL (w : World) (b : Nat) (d : List ((Int × Int) × Bool)) : Prop := MpV (fun x : Int × Int => Value.agg #[.int .i64 x.1, .int .i64 x.2]) (fun v : Bool => Value.bool v) w b d
theorem New_c (rm : Int) (w : World) : Ret Tryz.prog 6 #[.int .i64 rm] w fun r w' => (rm < 1 ∨ 1048576 < rm) ∧ r = .tuple #[.pointer none, .int .i64 1] ∧ Keep w w' ∨ ¬ (rm < 1 ∨ 1048576 < rm) ∧ ∃ b bf bd bx bl, r = .tuple #[ptrV b, .int .i64 0] ∧ Blk w' b (dkL rm (some bf) 0 (some bd) (some bx) none 0 0 (some bl) false 0) 80 ∧ MPF w' bf [] ∧ MPD w' bd [] ∧ MPD w' bx [] ∧ MPL w' bl [] ∧ w.heap.size ≤ bf ∧ bf < bd ∧ bd < bx ∧ bx < bl ∧ bl < b ∧ b < w'.heap.size ∧ Keep w w' := by
 refine X.enter Zf6 rfl Tryz.ntmps6 rfl<|Zs<|Zr<|Zoa rfl rfl<|Zoa rfl rfl<|Ze<|Zs<|Zs<|Zr<|Zomi rfl rfl<|X.opP X.wN rfl rfl (X.lss rfl rfl) (fun h5 => ?_) (fun h5 => ?_)
 ·refine Zomt rfl rfl<|Zp rfl rfl rfl<|Zp rfl rfl rfl<|Zo (ZdTt rfl rfl) rfl<|Ze<|Zt rfl<|Zs<|Zr<|Zoa rfl rfl<|Zoa rfl rfl<|Ze<|X.ret2 (v2 := (.int .i64 _)) Zf6 Zr6 rfl rfl ?_
  exact .inl ⟨by omega, rfl, (Keep.refl _)⟩
 ·refine Zomf rfl rfl<|Zg (Zdmi rfl) rfl rfl rfl rfl<|X.opP (X.wG rfl rfl rfl) rfl rfl (X.gtr rfl rfl) (fun h8 => ?_) (fun h8 => ?_)
  ·refine Zo (ZdFt rfl rfl) rfl<|Ze<|Zt rfl<|Zs<|Zr<|Zoa rfl rfl<|Zoa rfl rfl<|Ze<|X.ret2 (v2 := (.int .i64 _)) Zf6 Zr6 rfl rfl ?_
   exact .inl ⟨by omega, rfl, (Keep.refl _)⟩
  ·refine Zo (ZdFf rfl rfl) rfl<|Ze<|Zf rfl<|Zk<|Zs<|Zr<|Zomi rfl rfl<|Zc (X.makeMapV (fun x : Int => Value.int .i64 x) (fun v : Value => v)) rfl ?_
   rintro _ w1 ⟨rfl, hG1, hk1, hz1⟩
   refine Zc (X.makeMapV (fun x : ByteArray => Value.string x) (fun v : Int => Value.int .i64 v)) rfl ?_
   rintro _ w2 ⟨rfl, hG2, hk2, hz2⟩
   refine Zc (X.makeMapV (fun x : ByteArray => Value.string x) (fun v : Int => Value.int .i64 v)) rfl ?_
   rintro _ w3 ⟨rfl, hG3, hk3, hz3⟩
   refine Zc (X.makeMapV (fun x : Int × Int => Value.agg #[.int .i64 x.1, .int .i64 x.2]) (fun v : Bool => Value.bool v)) rfl ?_
   rintro _ w4 ⟨rfl, hG4, hk4, hz4⟩
   refine Zo (X.buildB (vs := [(0, .int .i64 rm), (1, .map (some w.heap.size)), (3, .map (some w1.heap.size)), (4, .map (some w2.heap.size)), (6, .map (some w3.heap.size))]) (cs := #[.int .i64 rm, .map (some w.heap.size), .int .i64 0, .map (some w1.heap.size), .map (some w2.heap.size), .slice none 0 0, .map (some w3.heap.size), .bool false, .int .i64 0]) rfl Zl) rfl<|Zc (X.boxE rfl rfl) rfl ?_
   rintro _ w5 ⟨rfl, hB5, hk5, hz5⟩
   refine Zoa rfl rfl<|Zoa rfl rfl<|Ze<|X.ret2 (v2 := (.int .i64 _)) Zf6 Zr6 rfl rfl ?_
   exact .inr ⟨by omega, w4.heap.size, w.heap.size, w1.heap.size, w2.heap.size, w3.heap.size, rfl, hB5, (hG1.keep (((hk2.trans hk3).trans hk4).trans hk5)), (hG2.keep ((hk3.trans hk4).trans hk5)), (hG3.keep (hk4.trans hk5)), (hG4.keep hk5), by omega, by omega, by omega, by omega, by omega, by omega, ((((hk1.trans hk2).trans hk3).trans hk4).trans hk5)⟩
theorem named_c {b bd bf : Nat} {rm mk lf : Int} {bx bl : Option Nat} {A : Option Addr} {n c : Nat} {fu : Bool} {d : DIR} {fm : List (Int × Value)} (nm : ByteArray) (w : World) (hB : Blk w b (dkL rm (some bf) mk (some bd) bx A n c bl fu lf) 80) (hG : MPD w bd d) (hF : MPF w bf fm) : Ret Tryz.prog 52 #[ptrV b, .string nm] w fun r w' => r = .tuple #[.int .i64 ((asc nm d).getD 0), (asc ((asc nm d).getD 0) fm).getD (.pointer none), .bool (asc nm d).isSome] ∧ Keep w w' := by
 refine X.enter Tryz.func52 rfl Tryz.ntmps52 rfl<|Zs<|Zr<|Zoa rfl rfl<|Zoa rfl rfl<|Zoa rfl rfl<|Ze<|Zs<|Zr<|Zom rfl rfl<|Zo (X.nilCk rfl) rfl<|Zo (X.fldB (j := 3) Zu80 rfl rfl Zs76 rfl) rfl<|Zo (X.load1B Zi76 hB rfl rfl) rfl<|Zomg rfl rfl<|Zo (X.lookupOkV (enc := (fun x : ByteArray => Value.string x)) (venc := (fun v : Int => Value.int .i64 v)) (z := 0) Zu76 (keyStr Zu9) Zv3 hG rfl rfl) rfl<|Zom rfl rfl<|Zo (X.extr rfl rfl) rfl<|Zo (X.extr rfl rfl) rfl<|Zoai rfl rfl<|Zoao rfl rfl<|Ze<|Zs<|X.regionD (fun _ => False) 10 Zl Zl (fun w1 hk1 hz1 => ?_)
 refine ZDc 0 rfl Zl (Zdmi rfl)<|ZDc 1 rfl Zl (X.move rfl)<|ZDc 2 rfl Zl (X.nilCk rfl)<|ZDc 3 rfl Zl (X.fldB (j := 1) Zu80 rfl rfl Zs75 rfl)<|ZD 4 rfl Zl (fun w' hk' => X.load1B Zi75 (hB.keep (hk1.trans hk')) rfl rfl)<|ZDc 5 rfl Zl (Zdmi rfl)<|ZD 6 rfl Zl (fun w' hk' => X.lookupV (enc := (fun x : Int => Value.int .i64 x)) (venc := (fun v : Value => v)) (z := (Value.pointer none)) Zu75 (keyInt Zu3) Tryz.zeroValue132 (hF.keep (hk1.trans hk')) rfl rfl)<|ZDc 7 rfl Zl (Zdmo rfl)<|ZDc 8 rfl Zl (Zdai rfl)<|ZDc 9 rfl Zl (X.assign rfl)<|X.dStep (i := 10) Zl rfl (X.dwN rfl) (X.assign (v := .bool _) rfl) (fun h => absurd h (by decide))<|Zdend Zl<|X.ret3 (v1 := (.int .i64 _)) (v3 := (.bool _)) Tryz.func52 Tryz.results52 rfl rfl rfl ?_
 exact ⟨rfl, hk1⟩
abbrev fiL (A1 : Option Addr) (n1 c1 : Nat) (A2 : Option Addr) (n2 c2 : Nat) : List Value := [.slice A1 n1 c1, .slice A2 n2 c2]
theorem Size_c {b bd bf : Nat} {rm mk lf : Int} {bx bl : Option Nat} {A : Option Addr} {n c : Nat} {fu : Bool} {d : DIR} {fm : List (Int × Value)} (nm : ByteArray) (w : World) (hB : Blk w b (dkL rm (some bf) mk (some bd) bx A n c bl fu lf) 80) (hG : MPD w bd d) (hF : MPF w bf fm) (hfl : ∀ k, asc nm d = some k → ∃ pf A1 n1 c1 A2 n2 c2, asc k fm = some (.pointer (some ⟨pf, 0, none⟩)) ∧ Blk w pf (fiL A1 n1 c1 A2 n2 c2) 136) : Ret Tryz.prog 35 #[ptrV b, .string nm] w fun r w' => ((asc nm d = none ∧ r = .tuple #[.int .i64 0, .int .i64 52]) ∨ ∃ k pf A1 n1 c1 A2 n2 c2, asc nm d = some k ∧ asc k fm = some (.pointer (some ⟨pf, 0, none⟩)) ∧ Blk w pf (fiL A1 n1 c1 A2 n2 c2) 136 ∧ r = .tuple #[.int .i64 (n1 : Int), .int .i64 0]) ∧ Keep w w' := by
 refine X.enter Zf35 rfl Tryz.ntmps35 rfl<|Zs<|Zr<|Zoa rfl rfl<|Zoa rfl rfl<|Ze<|Zs<|Zs<|Zr<|Zom rfl rfl<|Zc (X.callE (is_c _ hB) Zc51 rfl rfl) rfl ?_
 rintro _ w1 ⟨rfl, hk1⟩
 have hk1' := hk1.size
 refine Zo (X.not_ rfl) rfl<|Ze<|Zf rfl<|Zk<|Zs<|Zr<|Zom rfl rfl<|Zomg rfl rfl<|Zc (X.callE (named_c nm _ (hB.keep hk1) (hG.keep hk1) (hF.keep hk1)) Zc52 rfl rfl) rfl ?_
 rintro _ w2 ⟨rfl, hk2⟩
 have hk2' := hk2.size
 refine Zom rfl rfl<|Zo (X.extr rfl rfl) rfl<|Zo (X.extr rfl rfl) rfl<|Zo (X.extr rfl rfl) rfl<|Zoai rfl rfl<|Zoa rfl rfl<|Zoao rfl rfl<|Ze<|Zs<|Zs<|Zr<|Zomo rfl rfl<|Zo (X.not_ rfl) rfl<|Ze<|X.condB rfl (fun hc => ?_) (fun hc => ?_)
 ·have hno : asc nm d = none := by
    cases ha : asc nm d with
    | none => rfl
    | some k => rw [ha] at hc; simp at hc
  refine Zs<|Zr<|Zoa rfl rfl<|Zoa rfl rfl<|Ze<|X.ret2 (v1 := (.int .i64 _)) (v2 := (.int .i64 _)) Zf35 Tryz.results35 rfl rfl ?_
  exact ⟨.inl ⟨hno, rfl⟩, (hk1.trans hk2)⟩
 ·obtain ⟨k, hfa⟩ : ∃ k, asc nm d = some k := by
    cases ha : asc nm d with
    | none => rw [ha] at hc; simp at hc
    | some k => exact ⟨k, rfl⟩
  obtain ⟨pf, A1, n1, c1, A2, n2, c2, hfb, hBf⟩ := hfl k hfa
  rw [hfa, Option.getD_some, hfb, Option.getD_some]
  refine Zk<|Zs<|Zr<|Zom rfl rfl<|Zo (X.nilCk rfl) rfl<|Zo (X.fldB (j := 0) Zu136 rfl rfl Zs81 rfl) rfl<|Zo (X.load1B Zi81 (hBf.keep (hk1.trans hk2)) rfl rfl) rfl<|Zo (X.lenSl Zu81 rfl) rfl<|Zoai rfl rfl<|Zoa rfl rfl<|Ze<|X.ret2 (v1 := (.int .i64 _)) (v2 := (.int .i64 _)) Zf35 Tryz.results35 rfl rfl ?_
  exact ⟨.inr ⟨k, pf, A1, n1, c1, A2, n2, c2, rfl, hfb, hBf, rfl⟩, (hk1.trans hk2)⟩
def cost (sz : Int → Nat) (d : DIR) (k : ByteArray) : Nat := (sz ((asc k d).getD 0) + 63) / 64
def costs (sz : Int → Nat) (d : DIR) : Nat := ((d.map (·.1)).map (cost sz d)).sum
theorem costs_of {sz : Int → Nat} {d : DIR} {ds : List ByteArray} (h1 : (d.map (·.1)).Nodup) (h2 : ds.Nodup) (h3 : ∀ k, k ∈ ds ↔ k ∈ d.map (·.1)) : (ds.map (cost sz d)).sum = costs sz d :=
  (((List.perm_ext_iff_of_nodup h2 h1).2 h3).map _).sum_nat
theorem nodup_len {α : Type} [DecidableEq α] {ds ks : List α} (h2 : ds.Nodup) (h3 : ∀ k, k ∈ ds → k ∈ ks) : ds.length ≤ ks.length := by
  induction ds generalizing ks with
  | nil => simp
  | cons a ds ih =>
    obtain ⟨h4, h5⟩ := List.nodup_cons.1 h2
    have ha := h3 a List.mem_cons_self
    have := ih (ks := @List.erase α instBEqOfDecidableEq ks a) h5 (fun k hk => (List.mem_erase_of_ne (show k ≠ a from fun e => h4 (by rw [← e]; exact hk))).2 (h3 k (List.mem_cons_of_mem _ hk)))
    rw [List.length_erase_of_mem ha] at this
    have : 0 < ks.length := List.length_pos_of_mem ha
    rw [List.length_cons]; omega
abbrev FILE := List UInt8 × List UInt8
structure DS where
  rm : Int
  fs : List FILE
  dir : DIR
  fx : DIR
  chs : List CHG
  ls : List ((Int × Int) × Bool)
  fu : Bool
  lf : Int
def fmapF : Nat → List Nat → List (Int × Value)
  | _, [] => []
  | i, p :: pt => ((i : Int), ptrV p) :: fmapF (i + 1) pt
theorem fmapF_asc (k : Int) : ∀ (pt : List Nat) (i : Nat), asc k (fmapF i pt) = if (i : Int) ≤ k then (pt[(k - i).toNat]?).map ptrV else none
  | [], i => by simp [fmapF, asc]
  | p :: pt, i => by
    rw [fmapF, asc, fmapF_asc k pt (i + 1)]
    by_cases h : k = (i : Int)
    · subst h; simp
    · rw [if_neg h]
      by_cases h1 : (i : Int) ≤ k
      · rw [if_pos Zz, if_pos h1]
        have : (k - (i : Int)).toNat = (k - ((i + 1 : Nat) : Int)).toNat + 1 := by omega
        rw [this, List.getElem?_cons_succ]
      · rw [if_neg Zz, if_neg h1]
theorem fmapF_put (p : Nat) : ∀ (pt : List Nat) (i : Nat), put ((i + pt.length : Nat) : Int) (ptrV p) (fmapF i pt) = fmapF i (pt ++ [p])
  | [], i => by simp [fmapF, put]
  | q :: pt, i => by
    rw [fmapF, put, if_neg (by simp; omega), List.cons_append, fmapF]
    have := fmapF_put p pt (i + 1)
    rw [show i + 1 + pt.length = i + (q :: pt).length by simp; omega] at this
    rw [this]
def FlR (col : Nat → Nat) (w : World) (k p : Nat) (f : FILE) : Prop := col p = 7 + 3 * k ∧ ∃ A1 n1 c1 A2 n2 c2, Blk w p (fiL A1 n1 c1 A2 n2 c2) 136 ∧ Row KB 5 (fun q => col q = 8 + 3 * k) 0 0 w (.slice A1 n1 c1) f.1 ∧ Mine KB 5 (fun q => col q = 9 + 3 * k) 0 0 w (.slice A2 n2 c2) f.2
structure DkB (col : Nat → Nat) (w : World) (b bf bd bx bl : Nat) (A : Option Addr) (n c : Nat) (pt : List Nat) (s : DS) : Prop where
  B : Blk w b (dkL s.rm (some bf) (s.fs.length : Int) (some bd) (some bx) A n c (some bl) s.fu s.lf) 80
  F : MPF w bf (fmapF 0 pt)
  G : MPD w bd s.dir
  X : MPD w bx s.fx
  L : MPL w bl s.ls
  M : Mine KCh 162 (fun q => col q = 6) 0 0 w (.slice A n c) s.chs
  cb : col b = 1
  cf : col bf = 2
  cd : col bd = 3
  cx : col bx = 4
  cl : col bl = 5
  lt : ∀ q, col q ≠ 0 → q < w.heap.size
  pl : pt.length = s.fs.length
  fl : ∀ k p f, pt[k]? = some p → s.fs[k]? = some f → FlR col w k p f
def DkR (col : Nat → Nat) (w : World) (b : Nat) (s : DS) : Prop := ∃ bf bd bx bl A n c pt, DkB col w b bf bd bx bl A n c pt s
theorem DkB.r {col : Nat → Nat} {w : World} {b bf bd bx bl : Nat} {A : Option Addr} {n c : Nat} {pt : List Nat} {s : DS} (h : DkB col w b bf bd bx bl A n c pt s) : DkR col w b s := ⟨bf, bd, bx, bl, A, n, c, pt, h⟩
structure Stp (col : Nat → Nat) (w : World) (col' : Nat → Nat) (w' : World) : Prop where
  old : ∀ q, q < w.heap.size → col' q = col q
  ext : Ext (fun q => col q ≠ 0) w w'
theorem Stp.refl (col : Nat → Nat) (w : World) : Stp col w col w := ⟨fun _ _ => rfl, Ext.refl _ _⟩
theorem Stp.trans {c1 c2 c3 : Nat → Nat} {w1 w2 w3 : World} (h : Stp c1 w1 c2 w2) (h' : Stp c2 w2 c3 w3) : Stp c1 w1 c3 w3 :=
  ⟨fun q hq => (h'.old q (Nat.lt_of_lt_of_le hq h.ext.size)).trans (h.old q hq), Ext.trans h.ext h'.ext (fun _ _ x => x) (fun q hq x => by rw [← h.old q hq]; exact x)⟩
theorem Stp.keep {col : Nat → Nat} {w w' : World} (h : Keep w w') : Stp col w col w' := ⟨fun _ _ => rfl, h.mono fun _ _ h => h.elim⟩
theorem Keep.dk {col col' : Nat → Nat} {w w1 w' : World} (h : Keep w w1) (h' : Stp col w1 col' w') : Stp col w col' w' := (Stp.keep h).trans h'
section
variable {col col' : Nat → Nat} {w w' : World} {b bf bd bx bl : Nat} {A : Option Addr} {n c : Nat} {pt : List Nat} {s : DS}
theorem FlR.ext {k p : Nat} {f : FILE} (h : FlR col w k p f) {T : Nat → Prop} (x : Ext T w w') (hc : ∀ q, q < w.heap.size → col' q = col q) (hT : ∀ q, q < w.heap.size → T q → col q ≠ 7 + 3 * k ∧ col q ≠ 8 + 3 * k ∧ col q ≠ 9 + 3 * k) : FlR col' w' k p f := by
  obtain ⟨h0, A1, n1, c1, A2, n2, c2, h1, h2, h3⟩ := h
  have cut : ∀ (v : Value) (xs : List UInt8) (j : Nat), (j = 8 + 3 * k ∨ j = 9 + 3 * k) → Mine KB 5 (fun q => col q = j) 0 0 w v xs → Mine KB 5 (fun q => col' q = j) 0 0 w' v xs := fun v xs j hj hm =>
    ((hm.mono (T := fun q => col' q = j ∧ q < w.heap.size) (fun q hq h => ⟨(hc q hq).trans h, hq⟩)).ext x Zz (fun q hq ht => by have := hT q hq.2 ht; have := hc q hq.2; omega)).mono (fun _ _ h => h.1)
  have cutR : ∀ (v : Value) (xs : List UInt8) (j : Nat), (j = 8 + 3 * k ∨ j = 9 + 3 * k) → Row KB 5 (fun q => col q = j) 0 0 w v xs → Row KB 5 (fun q => col' q = j) 0 0 w' v xs := fun v xs j hj hm =>
    ((hm.mono (T := fun q => col' q = j ∧ q < w.heap.size) (fun q hq h => ⟨(hc q hq).trans h, hq⟩)).ext x Zz (fun q hq ht => by have := hT q hq.2 ht; have := hc q hq.2; omega)).mono (fun _ _ h => h.1)
  exact ⟨(hc p h1.lt).trans h0, A1, n1, c1, A2, n2, c2, h1.ext x (fun ht => (hT p h1.lt ht).1 h0), cutR _ _ _ (.inl rfl) h2, cut _ _ _ (.inr rfl) h3⟩
structure DkP (V : Nat → Prop) (col : Nat → Nat) (w : World) (b bf bd bx bl : Nat) (A : Option Addr) (n c : Nat) (pt : List Nat) (s : DS) : Prop where
  B : ¬ V 1 → Blk w b (dkL s.rm (some bf) (s.fs.length : Int) (some bd) (some bx) A n c (some bl) s.fu s.lf) 80
  F : ¬ V 2 → MPF w bf (fmapF 0 pt)
  G : ¬ V 3 → MPD w bd s.dir
  X : ¬ V 4 → MPD w bx s.fx
  L : ¬ V 5 → MPL w bl s.ls
  M : ¬ V 6 → Mine KCh 162 (fun q => col q = 6) 0 0 w (.slice A n c) s.chs
  cb : col b = 1
  cf : col bf = 2
  cd : col bd = 3
  cx : col bx = 4
  cl : col bl = 5
  pl : pt.length = s.fs.length
  fl : ∀ k p f, pt[k]? = some p → s.fs[k]? = some f → (∀ j, 7 + 3 * k ≤ j → j ≤ 9 + 3 * k → ¬ V j) → FlR col w k p f
theorem DkB.part (h : DkB col w b bf bd bx bl A n c pt s) (V : Nat → Prop) {T : Nat → Prop} (x : Ext T w w') (hc : ∀ q, q < w.heap.size → col' q = col q) (hT : ∀ q, q < w.heap.size → T q → V (col q)) : DkP V col' w' b bf bd bx bl A n c pt s := by
  refine ⟨fun v => h.B.ext x fun t => v ?_, fun v => h.F.ext x fun t => v ?_, fun v => h.G.ext x fun t => v ?_, fun v => h.X.ext x fun t => v ?_, fun v => h.L.ext x fun t => v ?_, fun v => ?_, (hc b h.B.lt).trans h.cb, (hc bf h.F.lt).trans h.cf, (hc bd h.G.lt).trans h.cd, (hc bx h.X.lt).trans h.cx, (hc bl h.L.lt).trans h.cl, h.pl, fun k p f h1 h2 hv => ?_⟩
  · have := hT _ h.B.lt t; rwa [h.cb] at this
  · have := hT _ h.F.lt t; rwa [h.cf] at this
  · have := hT _ h.G.lt t; rwa [h.cd] at this
  · have := hT _ h.X.lt t; rwa [h.cx] at this
  · have := hT _ h.L.lt t; rwa [h.cl] at this
  · exact ((h.M.mono (T := fun q => col' q = 6 ∧ q < w.heap.size) (fun q hq h => ⟨(hc q hq).trans h, hq⟩)).ext x Zz (fun q hq ht => v (by have := hT q hq.2 ht; rwa [← hc q hq.2, hq.1] at this))).mono (fun _ _ h => h.1)
  · exact (h.fl k p f h1 h2).ext x hc fun q hq ht => by
      have h3 := hT q hq ht
      refine ⟨fun e => ?_, fun e => ?_, fun e => ?_⟩ <;> rw [e] at h3
      · exact hv _ Zz Zz h3
      · exact hv _ Zz Zz h3
      · exact hv _ Zz Zz h3
theorem DkB.ext (h : DkB col w b bf bd bx bl A n c pt s) {T : Nat → Prop} (x : Ext T w w') (hT : ∀ q, col q ≠ 0 → ¬ T q) : DkB col w' b bf bd bx bl A n c pt s := by
  have p := h.part (fun v => v = 0) x (fun _ _ => rfl) (fun q _ t => Classical.byContradiction fun e => hT q e t)
  exact ⟨p.B (by decide), p.F (by decide), p.G (by decide), p.X (by decide), p.L (by decide), p.M (by decide), p.cb, p.cf, p.cd, p.cx, p.cl, fun q hq => Nat.lt_of_lt_of_le (h.lt q hq) x.size, p.pl, fun k q f h1 h2 => p.fl k q f h1 h2 (fun j _ _ => by omega)⟩
theorem DkB.ne (h : DkB col w b bf bd bx bl A n c pt s) : b ≠ bf ∧ b ≠ bd ∧ b ≠ bx ∧ b ≠ bl ∧ bf ≠ bd ∧ bf ≠ bx ∧ bf ≠ bl ∧ bd ≠ bx ∧ bd ≠ bl ∧ bx ≠ bl := by
  have h1 := h.cb
  have h2 := h.cf
  have h3 := h.cd
  have h4 := h.cx
  have h5 := h.cl
  refine ⟨?_, ?_, ?_, ?_, ?_, ?_, ?_, ?_, ?_, ?_⟩ <;> (intro e; subst e; omega)
theorem DkB.keep (h : DkB col w b bf bd bx bl A n c pt s) (x : Keep w w') : DkB col w' b bf bd bx bl A n c pt s := h.ext x fun _ _ t => t
theorem DkR.ext (h : DkR col w b s) {T : Nat → Prop} (x : Ext T w w') (hT : ∀ q, col q ≠ 0 → ¬ T q) : DkR col w' b s := let ⟨bf, bd, bx, bl, A, n, c, pt, h⟩ := h; ⟨bf, bd, bx, bl, A, n, c, pt, h.ext x hT⟩
theorem DkR.keep (h : DkR col w b s) (x : Keep w w') : DkR col w' b s := h.ext x fun _ _ t => t
theorem DkR.lt (h : DkR col w b s) : ∀ q, col q ≠ 0 → q < w.heap.size := let ⟨_, _, _, _, _, _, _, _, h⟩ := h; h.lt
theorem DkR.cb (h : DkR col w b s) : col b = 1 := let ⟨_, _, _, _, _, _, _, _, h⟩ := h; h.cb
end
def rec' (col : Nat → Nat) (h h' v : Nat) : Nat → Nat := fun q => if q < h then col q else if q < h' then v else 0
theorem rec_old {col : Nat → Nat} {h h' v q : Nat} (hq : q < h) : rec' col h h' v q = col q := by rw [rec', if_pos hq]
theorem rec_new {col : Nat → Nat} {h h' v q : Nat} (hq : h ≤ q) (hq' : q < h') : rec' col h h' v q = v := by rw [rec', if_neg Zz, if_pos hq']
theorem rec_lt {col : Nat → Nat} {h h' v q : Nat} (hl : ∀ q, col q ≠ 0 → q < h) (hh : h ≤ h') (hq : rec' col h h' v q ≠ 0) : q < h' := by
  rw [rec'] at hq
  split at hq
  · omega
  · split at hq
    · assumption
    · exact absurd rfl hq
structure DS.Ok (s : DS) : Prop where
  rm : 1 ≤ s.rm ∧ s.rm ≤ 1048576
  dir : ∀ p, p ∈ s.dir → 0 ≤ p.2 ∧ p.2 < s.fs.length ∧ p.1.size ≤ 64
  fx : ∀ p, p ∈ s.fx → 0 ≤ p.2 ∧ p.2 < s.fs.length ∧ p.1.size ≤ 64
  chs : ∀ c, c ∈ s.chs → c.1 = ⟨#[]⟩ → 0 ≤ c.2.2 ∧ c.2.2 < s.fs.length
  chn : ∀ c, c ∈ s.chs → c.2.1 ≠ ⟨#[]⟩ → 0 ≤ c.2.2 ∧ c.2.2 < s.fs.length ∧ c.2.1.size ≤ 64
  fs : ∀ f, f ∈ s.fs → f.1.length ≤ 1048576 ∧ f.2.length ≤ 1048576
  few : s.dir.length ≤ 256
  fewx : s.fx.length ≤ 256
  lf : 0 ≤ s.lf ∧ s.lf ≤ 1048576
  nd : (s.dir.map (·.1)).Nodup
  ndx : (s.fx.map (·.1)).Nodup
def DS.size (s : DS) : Nat := s.fs.length + s.chs.length
def DS.down (s : DS) : Bool := s.fu && decide (s.lf ≤ 0)
def DS.did (s : DS) : DS := { s with lf := if s.fu = true then s.lf - 1 else s.lf }
def DS.note (c : CHG) (s : DS) : DS := { s with dir := trn c s.dir, chs := s.chs ++ [c] }
def rightN (nm : ByteArray) : Bool := decide (nm ≠ ⟨#[]⟩ ∧ nm.size ≤ 64)
def flen (fs : List FILE) (k : Int) : Nat := (fs.getD k.toNat ([], [])).1.length
def DS.used (s : DS) : Nat := costs (flen s.fs) s.dir
theorem DkB.at_ {col : Nat → Nat} {w : World} {b bf bd bx bl : Nat} {A : Option Addr} {n c : Nat} {pt : List Nat} {s : DS} (h : DkB col w b bf bd bx bl A n c pt s) {k : Int} (h0 : 0 ≤ k) (hk : k < s.fs.length) : ∃ p f A1 n1 c1 A2 n2 c2, asc k (fmapF 0 pt) = some (ptrV p) ∧ pt[k.toNat]? = some p ∧ s.fs[k.toNat]? = some f ∧ n1 = f.1.length ∧ n2 = f.2.length ∧ flen s.fs k = n1 ∧ col p = 7 + 3 * k.toNat ∧ Blk w p (fiL A1 n1 c1 A2 n2 c2) 136 ∧ Row KB 5 (fun q => col q = 8 + 3 * k.toNat) 0 0 w (.slice A1 n1 c1) f.1 ∧ Mine KB 5 (fun q => col q = 9 + 3 * k.toNat) 0 0 w (.slice A2 n2 c2) f.2 := by
  have hl : k.toNat < s.fs.length := by omega
  have hp : k.toNat < pt.length := by rw [h.pl]; exact hl
  obtain ⟨h1, A1, n1, c1, A2, n2, c2, h2, h3, h4⟩ := h.fl k.toNat _ _ (List.getElem?_eq_getElem hp) (List.getElem?_eq_getElem hl)
  refine ⟨_, _, A1, n1, c1, A2, n2, c2, ?_, List.getElem?_eq_getElem hp, List.getElem?_eq_getElem hl, h3.len.symm, h4.len.symm, ?_, h1, h2, h3, h4⟩
  · rw [fmapF_asc, if_pos Zz]
    rw [show (k - ((0 : Nat) : Int)).toNat = k.toNat by omega, List.getElem?_eq_getElem hp]; rfl
  · rw [← h3.len, flen, List.getD_eq_getElem?_getD, List.getElem?_eq_getElem hl]; rfl
theorem DS.Ok.len {s : DS} (h : s.Ok) {k : Int} {f : FILE} (hf : s.fs[k.toNat]? = some f) : f.1.length ≤ 1048576 ∧ f.2.length ≤ 1048576 := h.fs f (List.mem_of_getElem? hf)
theorem DS.Ok.flen {s : DS} (h : s.Ok) (k : Int) : flen s.fs k ≤ 1048576 := by
  rw [Go.Proofs.YtjjhddjllpihaaaGreatDoor.flen, List.getD_eq_getElem?_getD]
  cases hf : s.fs[k.toNat]? with
  | none => simp
  | some f => exact (h.len hf).1
theorem costs_le {sz : Int → Nat} {d : DIR} (h : ∀ k, sz k ≤ 1048576) : ∀ ds : List ByteArray, (ds.map (cost sz d)).sum ≤ ds.length * 16384
  | [] => by simp
  | a :: ds => by
    have := costs_le (d := d) h ds
    have h2 : cost sz d a ≤ 16384 := by have := h ((asc a d).getD 0); rw [cost]; omega
    simp only [List.map_cons, List.sum_cons, List.length_cons]; omega
theorem DS.Ok.used {s : DS} (h : s.Ok) : s.used ≤ 256 * 16384 := by
  have := costs_le (d := s.dir) h.flen (s.dir.map (·.1))
  have h2 := h.few
  rw [List.length_map] at this
  exact Nat.le_trans this (Nat.mul_le_mul_right _ h2)
theorem used_c {col : Nat → Nat} {b bf bd bx bl : Nat} {A : Option Addr} {n c : Nat} {pt : List Nat} {s0 : DS} (w : World) (h : DkB col w b bf bd bx bl A n c pt s0) (hok : s0.Ok) : Ret Tryz.prog 72 #[ptrV b] w fun r w' => r = .int .i64 (s0.used : Int) ∧ Keep w w' := by
 have hbd := h.G.lt
 have hbb := h.B.lt
 have hbf := h.F.lt
 refine X.enter Tryz.func72 rfl Tryz.ntmps72 rfl<|Zs<|Zr<|Zoa rfl rfl<|Ze<|Zs<|Zr<|Zoa rfl rfl<|Ze<|Zs<|Zs<|Zr<|Zom rfl rfl<|Zo (X.nilCk rfl) rfl<|Zo (X.fldB (j := 3) Zu80 rfl rfl Zs76 rfl) rfl<|Zo (X.load1B Zi76 h.B rfl rfl) rfl<|Zc (X.rangeE (enc := (fun x : ByteArray => Value.string x)) Zu76 h.G rfl) rfl ?_
 rintro _ w1 ⟨rfl, hI1, hk1, hz1⟩
 refine Ze<|Zb<|X.loopL (σ := List ByteArray × Int) (fun s => [(0, ptrV b), (3, .int .i64 s.2), (10, .pointer (some ⟨w.heap.size, 0, none⟩))]) (fun s w' => It (fun x : ByteArray => Value.string x) w' w.heap.size bd (mv (fun v : Int => Value.int .i64 v) s0.dir) s.1 ∧ s.2 = (((s.1.map (cost (flen s0.fs) s0.dir)).sum : Nat) : Int) ∧ s.1.Nodup ∧ (∀ k, k ∈ s.1 → k ∈ s0.dir.map (·.1)) ∧ Keep w w') (fun s => s0.dir.length + 1 - s.1.length) ([], 0) ⟨rfl, rfl, rfl, trivial⟩ ⟨hI1, rfl, List.nodup_nil, fun _ h => (by simp at h), hk1⟩ ?_
 rintro ⟨ds, nn⟩ e w1 ⟨hI, hn, hnd, hin, hk⟩ hback
 dsimp only at hn hnd hin hI ⊢
 have hk' := hk.size
 have hle := costs_le (d := s0.dir) hok.flen ds
 have hdl := nodup_len hnd hin
 rw [List.length_map] at hdl
 have hfew := hok.few
 refine Zs<|Zr<|Zc (X.nextE hI rfl) rfl ?_
 rintro _ w2 (⟨rfl, hall2, rfl⟩ | ⟨p2, hp2, hpn2, rfl, hI2, hx2, hz2⟩)
 ·
  refine Zo (X.extr rfl rfl) rfl<|Ze<|Zs<|Zf rfl<|Zx rfl<|Zs<|Zr<|Zomi rfl rfl<|Zoai rfl rfl<|Ze<|X.ret1 (v := (.int .i64 _)) Tryz.func72 Tryz.results72 rfl ?_
  have hall : ∀ k, k ∈ s0.dir.map (·.1) → k ∈ ds := fun k hm => by
    obtain ⟨q, hq, rfl⟩ := List.mem_map.1 hm
    exact hall2 (q.1, .int .i64 q.2) (List.mem_map.2 ⟨q, hq, rfl⟩)
  have e0 := costs_of (sz := flen s0.fs) hok.nd hnd (fun k => ⟨hin k, hall k⟩)
  rw [DS.used, ← e0, ← hn]
  exact ⟨rfl, hk⟩
 ·have hx2' := hx2.size
  obtain ⟨q, hq, rfl⟩ : ∃ q : ByteArray × Int, q ∈ s0.dir ∧ p2 = (q.1, Value.int .i64 q.2) := by
    obtain ⟨q, hq, e⟩ := List.mem_map.1 hp2
    exact ⟨q, hq, e.symm⟩
  obtain ⟨hq0, hq1, _⟩ := hok.dir q hq
  obtain ⟨fp, f, A1, n1, c1, A2, n2, c2, ha, _, hf, hn1, _, hfl, _, hBf, _, _⟩ := h.at_ hq0 hq1
  have hfn := (hok.len hf).1
  have hasc : asc q.1 s0.dir = some q.2 := asc_mem hok.nd hq
  refine Zo (X.extr rfl rfl) rfl<|Ze<|Zs<|Zt rfl<|Zk<|Zb<|Zs<|Zr<|Zo (X.entryE hI2 hp2 rfl) rfl<|Zo (X.extr rfl rfl) rfl<|Zoai rfl rfl<|Ze<|Zr<|Zomi rfl rfl<|Zom rfl rfl<|Zo (X.nilCk rfl) rfl<|Zo (X.fldB (j := 1) Zu80 rfl rfl Zs75 rfl) rfl<|Zo (X.load1B Zi75 (h.B.keep (hk.step hx2 zq34)) rfl rfl) rfl ?_
  refine Zomi rfl rfl<|Zo (X.lookupAt Zu75 (keyInt Zu3) Tryz.zeroValue132 (((h.F.keep hk).ext hx2 (by intro hh; have hh : _ = w.heap.size := hh; omega))) ha rfl rfl) rfl ?_
  refine Zo (X.nilCk rfl) rfl<|Zo (X.fldB (j := 0) Zu136 rfl rfl Zs81 rfl) rfl<|Zo (X.load1B Zi81 (hBf.keep (hk.step hx2 zq34)) rfl rfl) rfl ?_
  refine Zo (X.lenSl Zu81 rfl) rfl<|Zc (X.callE (sectors_c _ _ Zz) Zc73 rfl rfl) rfl ?_
  rintro _ w3 ⟨rfl, hk3⟩
  have hk3' := hk3.size
  refine Zo (X.add rfl rfl (X.w_i64 Zz)) rfl<|Zoai rfl rfl<|Ze<|Zi ?_
  refine hback (q.1 :: ds, _) _ _ ⟨rfl, rfl, rfl, trivial⟩ ⟨(hI2.keep hk3), ?_, List.nodup_cons.2 ⟨hpn2, hnd⟩, ?_, ((hk.step hx2 zq34).trans hk3)⟩ ?_
  ·show _ = ((((q.1 :: ds).map (cost (flen s0.fs) s0.dir)).sum : Nat) : Int)
   rw [List.map_cons, List.sum_cons, cost, hasc, Option.getD_some, hfl, hn]
   omega
  ·intro k hk1
   rcases List.mem_cons.1 hk1 with rfl | hk1
   ·exact List.mem_map.2 ⟨q, hq, rfl⟩
   ·exact hin k hk1
  ·have hnd2 : (q.1 :: ds).Nodup := List.nodup_cons.2 ⟨hpn2, hnd⟩
   have := nodup_len (ks := s0.dir.map (·.1)) hnd2 (fun k hk1 => by
     rcases List.mem_cons.1 hk1 with rfl | hk1
     ·exact List.mem_map.2 ⟨q, hq, rfl⟩
     ·exact hin k hk1)
   simp only [List.length_map, List.length_cons] at this ⊢
   omega
def DS.create (nm : ByteArray) (s : DS) : Int × DS :=
  if s.down = true then (54, s) else if rightN nm = false then (51, s) else if (asc nm s.dir).isSome = true then (50, s) else if 256 ≤ s.dir.length then (3, s)
  else (0, (({ s with fs := s.fs ++ [([], [])] } : DS).note (⟨#[]⟩, nm, (s.fs.length : Int))).did)
theorem Create_c {col : Nat → Nat} {b bf bd bx bl : Nat} {A : Option Addr} {n c : Nat} {pt : List Nat} {s0 : DS} (nm : ByteArray) (w : World) (h : DkB col w b bf bd bx bl A n c pt s0) (hok : s0.Ok) (hnm : nm.size ≤ 9223372036854775807) (hsz : s0.size ≤ 100000) : Ret Tryz.prog 32 #[ptrV b, .string nm] w fun r w' => r = .int .i64 (s0.create nm).1 ∧ ∃ col', DkR col' w' b (s0.create nm).2 ∧ Stp col w col' w' := by
 have hbl := h.B.lt
 have hfl := h.F.lt
 have hdl := h.G.lt
 have hxl := h.X.lt
 have hll := h.L.lt
 have hcb := h.cb
 have hcf := h.cf
 have hcd := h.cd
 have hcx := h.cx
 have hcl := h.cl
 obtain ⟨z1, z2, z3, z4, z5, z6, z7, z8, z9, z10⟩ := h.ne
 have hlt := h.lt
 have hok1 := hok.lf
 have hok2 := hok.few
 rw [DS.size] at hsz
 refine X.enter Zf32 rfl Tryz.ntmps32 rfl<|Zs<|Zr<|Zoa rfl rfl<|Ze<|Zs<|Zs<|Zr<|Zom rfl rfl<|Zc (X.callE (may_c_disk _ h.B) Zc68 rfl rfl) rfl ?_
 rintro _ w1 ⟨rfl, hk1⟩
 have hk1' := hk1.size
 refine Zoai rfl rfl<|Ze<|Zs<|Zr<|Zomi rfl rfl<|X.opP X.wN rfl rfl (X.neI rfl rfl) (fun h11 => ?_) (fun h11 => ?_)
 ·have hd : (s0.fu && decide (s0.lf ≤ 0)) = true := by
    cases hq : (s0.fu && decide (s0.lf ≤ 0)) with
    | true => rfl
    | false => rw [hq] at h11; simp at h11
  have hD : s0.down = true := hd
  refine Ze<|Zt rfl<|Zs<|Zr<|Zomi rfl rfl<|Zoai rfl rfl<|Ze<|X.ret1 (v := (.int .i64 _)) Zf32 Zr32 rfl ?_
  have e : s0.create nm = (54, s0) := by simp only [DS.create, if_pos hD]
  rw [e]
  exact ⟨by rw [if_pos hd], col, (h.keep hk1).r, Stp.keep hk1⟩
 ·have hd : ¬ (s0.fu && decide (s0.lf ≤ 0)) = true := by
    cases hq : (s0.fu && decide (s0.lf ≤ 0)) with
    | false => simp
    | true => rw [hq] at h11; simp at h11
  have hD : ¬ s0.down = true := hd
  refine Ze<|Zf rfl<|Zk<|Zs<|Zs<|Zr<|Zomg rfl rfl<|Zc (X.callE (right_c nm _ hnm) Tryz.call69 rfl rfl) rfl ?_
  rintro _ w2 ⟨rfl, hk2⟩
  have hk2' := hk2.size
  refine Zo (X.not_ rfl) rfl<|Ze<|X.condB rfl (fun hr0 => ?_) (fun hr0 => ?_)
  ·have hr : rightN nm = false := by
     rw [rightN]
     cases hq : decide (nm ≠ ⟨#[]⟩ ∧ nm.size ≤ 64) with
     | false => rfl
     | true => rw [hq] at hr0; simp at hr0
   refine Zs<|Zr<|Zoa rfl rfl<|Ze<|X.ret1 (v := (.int .i64 _)) Zf32 Zr32 rfl ?_
   have e : s0.create nm = (51, s0) := by simp only [DS.create, if_neg hD, if_pos hr]
   rw [e]
   exact ⟨rfl, col, (h.keep (hk1.trans hk2)).r, Stp.keep (hk1.trans hk2)⟩
  ·have hr : ¬ rightN nm = false := by
     rw [rightN]
     cases hq : decide (nm ≠ ⟨#[]⟩ ∧ nm.size ≤ 64) with
     | true => simp
     | false => rw [hq] at hr0; simp at hr0
   refine Zk<|Zs<|Zs<|Zr<|Zom rfl rfl<|Zo (X.nilCk rfl) rfl<|Zo (X.fldB (j := 3) Zu80 rfl rfl Zs76 rfl) rfl<|Zo (X.load1B Zi76 (h.B.keep (hk1.trans hk2)) rfl rfl) rfl<|Zomg rfl rfl<|Zo (X.lookupOkV (enc := (fun x : ByteArray => Value.string x)) (venc := (fun v : Int => Value.int .i64 v)) (z := 0) Zu76 (keyStr Zu9) Zv3 (h.G.keep (hk1.trans hk2)) rfl rfl) rfl<|Zom rfl rfl<|Zo (X.extr rfl rfl) rfl<|Zo (X.extr rfl rfl) rfl<|Zoai rfl rfl<|Zoao rfl rfl<|Ze<|Zs<|Zr<|Zomo rfl rfl<|Ze<|X.condB rfl (fun hth => ?_) (fun hth => ?_)
   ·refine Zs<|Zr<|Zoa rfl rfl<|Ze<|X.ret1 (v := (.int .i64 _)) Zf32 Zr32 rfl ?_
    have e : s0.create nm = (50, s0) := by simp only [DS.create, if_neg hD, if_neg hr, if_pos hth]
    rw [e]
    exact ⟨rfl, col, (h.keep (hk1.trans hk2)).r, Stp.keep (hk1.trans hk2)⟩
   ·have hth : ¬ (asc nm s0.dir).isSome = true := by rw [hth]; decide
    refine Zk<|Zs<|Zs<|Zr<|Zom rfl rfl<|Zo (X.nilCk rfl) rfl<|Zo (X.fldB (j := 3) Zu80 rfl rfl Zs76 rfl) rfl<|Zo (X.load1B Zi76 (h.B.keep (hk1.trans hk2)) rfl rfl) rfl<|Zo (X.lenV Zu76 (h.G.keep (hk1.trans hk2)) rfl) rfl<|X.opP X.wN rfl rfl (X.geq rfl rfl) (fun h31 => ?_) (fun h31 => ?_)
    ·refine Ze<|Zt rfl<|Zs<|Zr<|Zoa rfl rfl<|Ze<|X.ret1 (v := (.int .i64 _)) Zf32 Zr32 rfl ?_
     have e : s0.create nm = (3, s0) := by simp only [DS.create, if_neg hD, if_neg hr, if_neg hth, if_pos (show 256 ≤ s0.dir.length by omega)]
     rw [e]
     exact ⟨rfl, col, (h.keep (hk1.trans hk2)).r, Stp.keep (hk1.trans hk2)⟩
    ·refine Ze<|Zf rfl<|Zk<|Zs<|X.regionD (fun k => w.heap.size ≤ k) 10 Zl Zl (fun w3 hk3 hz3 => ?_)
     refine ZDc 0 rfl Zl (X.move rfl)<|ZDc 1 rfl Zl (X.nilCk rfl)<|ZDc 2 rfl Zl (X.fldB (j := 1) Zu80 rfl rfl Zs75 rfl)<|ZD 3 rfl Zl (fun w' hk' => X.load1B Zi75 ((h.B.keep ((hk1.trans hk2).trans hk3)).ext hk' zq2) rfl rfl) ?_
     refine ZDc 4 rfl Zl (X.move rfl)<|ZDc 5 rfl Zl (X.nilCk rfl)<|ZDc 6 rfl Zl (X.fldB (j := 2) Zu80 rfl rfl Zs3 rfl)<|ZD 7 rfl Zl (fun w' hk' => X.load1B Zi3 ((h.B.keep ((hk1.trans hk2).trans hk3)).ext hk' zq2) rfl rfl) ?_
     refine ZDc 8 rfl Zl (X.buildB (vs := []) (cs := #[.slice none 0 0, .slice none 0 0]) rfl Zl)<|X.dE (i := 9) Zl rfl (X.dwN rfl) (X.boxE rfl rfl) (by rintro _ w4 ⟨rfl, hB4, hk4, hz4⟩ _; exact hk4.mono (fun _ _ h => h.elim)) ?_
     rintro _ w4 ⟨rfl, hB4, hk4, hz4⟩
     refine X.dE (i := 10) Zl rfl (X.dwN rfl) (X.updateV (enc := fun x : Int => Value.int .i64 x) (venc := fun v : Value => v) (a := (s0.fs.length : Int)) (v := ptrV w3.heap.size) Zu75 (keyInt Zu3) ((((h.F.keep hk1).keep hk2).keep hk3).keep hk4) rfl rfl rfl) (fun _ _ _ h => absurd h (by decide)) ?_
     rintro _ w5 ⟨hG5, hx5, hz5⟩
     refine Zdend Zl<|Zs<|Zr<|Zom rfl rfl<|Zomg rfl rfl<|Zom rfl rfl<|Zo (X.nilCk rfl) rfl<|Zo (X.fldB (j := 2) Zu80 rfl rfl Zs3 rfl) rfl<|Zo (X.load1B Zi3 ((h.B.keep (((hk1.trans hk2).trans hk3).trans hk4)).ext hx5 zq2) rfl rfl) rfl ?_
     refine Zo (X.buildB (vs := [(1, .string nm), (2, .int .i64 (s0.fs.length : Int))]) (cs := #[.string ⟨#[]⟩, .string nm, .int .i64 (s0.fs.length : Int)]) rfl Zl) rfl<|Zc (X.callE (note_c (S := fun q => col q = 6) (⟨#[]⟩, nm, (s0.fs.length : Int)) _ ((h.B.keep (((hk1.trans hk2).trans hk3).trans hk4)).ext hx5 zq2) (((((h.G.keep hk1).keep hk2).keep hk3).keep hk4).ext hx5 zq2) (((((h.M.keep hk1).keep hk2).keep hk3).keep hk4).ext hx5 (by intros; omega) zq2) (by intro hh; subst hh; omega) (by (try simp only []); omega) (by (try simp only []); omega) (by intro q hq; have := hlt q (by (try simp only [] at hq); omega); omega) Zz) Tryz.call70 rfl rfl) rfl ?_
     rintro _ w6 ⟨rfl, A', n', c', hBn, hGn, hMn, hxn⟩
     have hxn' := hxn.size
     refine Ze<|Zs<|Zr<|Zom rfl rfl<|Zo (X.nilCk rfl) rfl<|Zo (X.fldB (j := 2) Zu80 rfl rfl Zs3 rfl) rfl<|Zo (X.load1B Zi3 hBn rfl rfl) rfl<|Zo (X.add rfl rfl (X.w_i64 Zz)) rfl<|Zo (X.nilCk rfl) rfl<|Zo (X.fldB (j := 2) Zu80 rfl rfl Zs3 rfl) rfl<|Zc (X.storeE Zs3 hBn rfl rfl rfl rfl) rfl ?_
     rintro _ w7 ⟨hB7, hx7, hz7⟩
     refine Ze<|Zs<|Zr<|Zom rfl rfl<|Zc (X.callE (did_c _ hB7 Zz) Zc71 rfl rfl) rfl ?_
     rintro _ w8 ⟨rfl, hBd, hxd⟩
     have hxd' := hxd.size
     refine Zoai rfl rfl<|Ze<|X.ret1 (v := (.int .i64 _)) Zf32 Zr32 rfl ?_
     have hfew : ¬ 256 ≤ s0.dir.length := by omega
     have hx : Ext (fun q => q = b ∨ q = bf ∨ q = bd ∨ col q = 6) w _ := (Ext.andThen (Ext.andThen (Ext.andThen (Ext.andThen (Ext.andThen (Ext.andThen (Ext.andThen (Ext.andThen (Ext.refl (fun q => q = b ∨ q = bf ∨ q = bd ∨ col q = 6) _) hk1 zq29) hk2 zq29) hk3 zq29) hk4 zq29) hx5 zq29) hxn zq29) hx7 zq29) hxd zq29)
     have hpl := h.pl
     have hp0 : col w3.heap.size = 0 := Classical.byContradiction fun e => by have := hlt _ e; omega
     generalize hcol : (fun q => if q < w.heap.size then col q else if q = w3.heap.size then 7 + 3 * s0.fs.length else if q < w8.heap.size then 6 else 0) = col'
     have hold : ∀ q, q < w.heap.size → col' q = col q := fun q hq => by rw [← hcol]; simp only [if_pos hq]
     have hnew : ∀ q, w.heap.size ≤ q → q ≠ w3.heap.size → q < w8.heap.size → col' q = 6 := fun q h1 h2 h3 => by rw [← hcol]; simp only [if_neg (Nat.not_lt.2 h1), if_neg h2, if_pos h3]
     have hpc : col' w3.heap.size = 7 + 3 * s0.fs.length := by rw [← hcol]; simp only [if_neg (show ¬ w3.heap.size < w.heap.size by omega), if_pos True.intro]
     have P := h.part (col' := col') (fun v => v = 1 ∨ v = 2 ∨ v = 3 ∨ v = 6) hx hold (fun q hq ht => by
       rcases ht with rfl | rfl | rfl | ht
       ·exact .inl hcb
       ·exact .inr (.inl hcf)
       ·exact .inr (.inr (.inl hcd))
       ·exact .inr (.inr (.inr ht)))
     have e : s0.create nm = (0, (({ s0 with fs := s0.fs ++ [([], [])] } : DS).note (⟨#[]⟩, nm, (s0.fs.length : Int))).did) := by simp only [DS.create, if_neg hD, if_neg hr, if_neg hth, if_neg hfew]
     rw [e]
     refine ⟨rfl, col', ⟨bf, bd, bx, bl, A', n', c', pt ++ [w3.heap.size], ?_, ?_, ((hGn.ext hx7 zq2).ext hxd zq2), P.X (by decide), P.L (by decide), ?_, P.cb, P.cf, P.cd, P.cx, P.cl, ?_, by simp [DS.did, DS.note, hpl], ?_⟩, ⟨hold, hx.mono (fun q _ t => ?_)⟩⟩
     ·have := hBd
      have e1 : ((s0.fs ++ [([], [])] : List FILE).length : Int) = (s0.fs.length : Int) + 1 := by simp
      simp only [DS.did, DS.note, e1]
      exact this
     ·have h1 := (((hG5.ext hxn zq2).ext hx7 zq2).ext hxd zq2)
      have h2 := fmapF_put w3.heap.size pt 0
      rw [Nat.zero_add, hpl] at h2
      simp only [MPF, MpV]
      have h3 : mv (fun v : Value => v) (put (s0.fs.length : Int) (ptrV w3.heap.size) (fmapF 0 pt)) = mv (fun v : Value => v) (fmapF 0 (pt ++ [w3.heap.size])) := by rw [h2]
      rw [← h3]; exact h1
     ·refine (((hMn.ext hx7 (by intros; omega) zq2).ext hxd (by intros; omega) zq2)).mono (fun q hq hS => ?_)
      rcases hS with hS | ⟨h1, h2⟩
      ·have := hlt q Zz
       rw [hold q this]; exact hS
      ·exact hnew q Zz Zz Zz
     ·intro q hq
      rw [← hcol] at hq
      simp only [] at hq
      split at hq
      ·omega
      ·split at hq
       ·omega
       ·split at hq
        ·assumption
        ·exact absurd rfl hq
     ·intro k q f h1 h2
      rcases Nat.lt_or_ge k pt.length with hk | hk
      ·have h3 : pt[k]? = some q := by rw [List.getElem?_append_left hk] at h1; exact h1
       have h4 : s0.fs[k]? = some f := by
         have h2 : (s0.fs ++ [([], [])] : List FILE)[k]? = some f := h2
         rw [List.getElem?_append_left Zz] at h2; exact h2
       exact P.fl k q f h3 h4 (fun j a1 a2 => by omega)
      ·have hk0 : k = pt.length := by
         have := (List.getElem?_eq_some_iff.1 h1).1
         simp at this; omega
       subst hk0
       have h3 : q = w3.heap.size := by rw [List.getElem?_append_right Zz] at h1; simpa using h1.symm
       have h4 : f = ([], []) := by
         have h2 : (s0.fs ++ [([], [])] : List FILE)[pt.length]? = some f := h2
         rw [List.getElem?_append_right Zz, hpl] at h2; simpa using h2.symm
       subst h3 h4
       refine ⟨by rw [hpc, hpl], none, 0, 0, none, 0, 0, ((((hB4.ext hx5 zq2).ext hxn zq2).ext hx7 zq2).ext hxd zq2), Row.of (Mine.nil _ _ _ _ _ _), Mine.nil _ _ _ _ _ _⟩
     ·rcases t with rfl | rfl | rfl | t <;> omega
def DS.delete (nm : ByteArray) (s : DS) : Int × DS :=
  if s.down = true then (54, s) else if asc nm s.dir = none then (52, s) else (0, (s.note (nm, ⟨#[]⟩, 0)).did)
theorem E8d : ElemInfo Tryz.prog 5 1 1 := ElemInfo.of (z := .int .u8 0) Zl rfl rfl rfl
abbrev encPl (x : Int × Int) : Value := .agg #[.int .i64 x.1, .int .i64 x.2]
theorem eqPl (a b : Int × Int) (w : World) : (Op.equalIn 10000 165 (encPl a) (encPl b)).run Tryz.prog w = .ok (decide (a = b)) w := by
  rw [run_equalIn_struct w 9999 _ _ _ (by simp [Program.fieldsOf, Zu165]) Zl]
  simp only [Program.fieldsOf, Zu165]
  simp [Op.eqFields, part, Zi3, run_equalIn_int _ 9998 3 .i64 .i64 _ _ Zu3]
  obtain ⟨a1, a2⟩ := a
  obtain ⟨b1, b2⟩ := b
  by_cases h1 : a1 = b1 <;> by_cases h2 : a2 = b2 <;> simp [h1, h2]
theorem checkPl (em : Bool) (n : Nat) (x : Int × Int) (w : World) : (Instr.checkKey em (n + 2) 165 (encPl x)).run Tryz.prog w = .ok () w := by
  have h2 : ∀ (i : Int) w, (Instr.checkKey em (n + 1) 3 (.int .i64 i)).run Tryz.prog w = .ok () w := fun i w => by simp [Instr.checkKey, run_underlying Zu3]
  rw [Instr.checkKey]
  simp [run_underlying Zu165, part, Zi3, h2]
theorem bitsPl (n : Nat) (x : Int × Int) : Instr.sameBits (n + 2) (encPl x) (encPl x) = true := by
  have h2 : ∀ i : Int, Instr.sameBits (n + 1) (.int .i64 i) (.int .i64 i) = true := fun i => by simp [Instr.sameBits]
  rw [Instr.sameBits]
  simp [h2]
theorem keyPl : KeyT Tryz.prog 165 (fun x : Int × Int => encPl x) :=
  keyStruct Zu165 (fun em x w => checkPl em 9998 x w) (fun x y w => eqPl x y w) (fun x => bitsPl 9998 x)
theorem CloneB_c {lo hi : Nat} {A : Option Addr} {n c : Nat} {l : List UInt8} (w : World) (hs : Sl KB lo hi w A n l) (hn : n ≤ 100000000) : Ret Tryz.prog 74 #[.slice A n c] w fun r w' => ∃ A' c', r = .slice A' n c' ∧ n ≤ c' ∧ Mine KB 5 (fun k => w.heap.size ≤ k ∧ k < w'.heap.size) 0 0 w' (.slice A' n c') l ∧ Keep w w' := by
 have hl := hs.len
 refine X.enter Zf74 rfl Tryz.ntmps74 rfl<|Zs<|Zr<|Zoa rfl rfl<|Ze<|Zs<|Zs<|Zr<|Zoms rfl rfl<|X.opB X.wN rfl rfl (X.eqNil Zu81 rfl rfl) (fun h4 => ?_) (fun h4 => ?_)
 ·refine Ze<|Zt rfl<|Zs<|Zr<|Zoa rfl rfl<|Ze<|X.ret1 Zf74 Tryz.results74 rfl ?_
  have hq : n = 0 := by
    rcases Nat.eq_zero_or_pos n with h | h
    ·exact h
    ·obtain ⟨ad, e, _⟩ := hs.at_ h
     subst e; simp at h4
  subst hq
  have hq : l = [] := List.eq_nil_of_length_eq_zero hl
  subst hq
  exact ⟨none, 0, rfl, Nat.le_refl _, Mine.nil _ _ _ _ _ _, (Keep.refl _)⟩
 ·refine Ze<|Zf rfl<|Zk<|Zs<|Zr<|Zc (X.lit0E (K := KB) (S := fun k => w.heap.size ≤ k) Zu81 Zs5 zq34) rfl ?_
  rintro v1 w1 ⟨hM1, hk1, hz1⟩
  refine Zoms rfl rfl<|Zc (X.appE (K := KB) (S := fun k => w.heap.size ≤ k) KB_flat Zu81 E8d rfl rfl hM1 (hs.keep hk1) zq15 zq34) rfl ?_
  rintro v2 w2 ⟨hM2, hx2⟩
  have hx2' := hx2.size
  refine Zoa rfl rfl<|Ze<|X.ret1 Zf74 Tryz.results74 rfl ?_
  have hMx := hM2
  obtain ⟨A', c', e, hc', _⟩ := hMx.slice
  subst e
  have e2 : ([] ++ l).length = n := by simp [hl]
  rw [e2] at hMx hc'
  exact ⟨A', c', by rw [e2]; rfl, hc', hMx.mono fun k hk h => ⟨h, hk⟩, (hk1.step hx2 zq34)⟩
theorem Sync1_c {bn : Nat} {k : Int} (p : Int × Int) (q : Bool) (w : World) (hB : Blk w bn [.int .i64 k] 3) : Ret Tryz.prog 76 #[encPl p, .bool q, ptrV bn] w fun r w' => r = .bool (decide (p.1 = k)) ∧ Keep w w' := by
 refine X.enter Tryz.func76 rfl Tryz.ntmps76 rfl<|Zs<|Zr<|Zc (X.boxE rfl rfl) rfl ?_
 rintro _ w1 ⟨rfl, hB1, hk1, hz1⟩
 refine Zoa rfl rfl<|Ze<|Zs<|Zr<|Zo (X.fldB (j := 0) Zu165 rfl rfl Zs3 rfl) rfl<|Zo (X.load1B Zi3 hB1 rfl rfl) rfl<|Zo (X.load1B Zi3 (hB.keep hk1) rfl rfl) rfl<|Zo (X.eqI rfl rfl) rfl<|Zoao rfl rfl<|Ze<|X.ret1 (v := (.bool _)) Tryz.func76 Tryz.results76 rfl ?_
 exact ⟨rfl, hk1⟩
abbrev LS := List ((Int × Int) × Bool)
def kpt (k : Int) (ds : List (Int × Int)) (l : LS) : LS := l.filter fun p => !(decide (p.1 ∈ ds) && decide (p.1.1 = k))
theorem kpt_nil (k : Int) (l : LS) : kpt k [] l = l := by
  rw [kpt, List.filter_eq_self]
  intro p _; simp
theorem kpt_sub (k : Int) (ds : List (Int × Int)) (l : LS) : ∀ p, p ∈ kpt k ds l → p ∈ l := fun p h => (List.mem_filter.1 h).1
theorem kpt_nd {k : Int} {ds : List (Int × Int)} {l : LS} (h : (l.map (·.1)).Nodup) : ((kpt k ds l).map (·.1)).Nodup := h.sublist (List.filter_sublist.map _)
theorem kpt_keep {k : Int} {ds : List (Int × Int)} {l : LS} {a : Int × Int} (h : a.1 ≠ k) : kpt k (a :: ds) l = kpt k ds l := by
  rw [kpt, kpt]
  congr 1
  funext p
  by_cases e : p.1 = a
  · rw [e]; simp [h]
  · simp [e]
theorem kpt_del {k : Int} {ds : List (Int × Int)} {l : LS} {a : Int × Int} (hn : (l.map (·.1)).Nodup) (h : a.1 = k) : del a (kpt k ds l) = kpt k (a :: ds) l := by
  rw [del_eq (kpt_nd hn), kpt, kpt, List.filter_filter]
  congr 1
  funext p
  by_cases e : p.1 = a
  · rw [e]; simp [h]
  · simp [e]
theorem kpt_all {k : Int} {ds : List (Int × Int)} {l : LS} (h : ∀ p, p ∈ kpt k ds l → p.1 ∈ ds) : kpt k ds l = l.filter fun p => decide (p.1.1 ≠ k) := by
  rw [kpt]
  apply List.filter_congr
  intro p hp
  by_cases e : p.1.1 = k
  · by_cases hd : p.1 ∈ ds
    · simp [e, hd]
    · exact absurd (h p (List.mem_filter.2 ⟨hp, by simp [hd]⟩)) hd
  · simp [e]
theorem kpt_mv (k : Int) (ds : List (Int × Int)) (l : LS) {p : (Int × Int) × Value} (h : p ∈ mv (fun v : Bool => Value.bool v) (kpt k ds l)) : ∃ q, q ∈ kpt k ds l ∧ p = (q.1, .bool q.2) := by
  obtain ⟨q, hq, e⟩ := List.mem_map.1 h
  exact ⟨q, hq, e.symm⟩
theorem DelFunc_c {b bn : Nat} {k : Int} {l : LS} (w : World) (hL : MPL w b l) (hB : Blk w bn [.int .i64 k] 3) (hne : bn ≠ b) : Ret Tryz.prog 75 #[.map (some b), .func (.func 76) #[] #[ptrV bn]] w fun r w' => r = .tuple #[] ∧ MPL w' b (l.filter fun p => decide (p.1.1 ≠ k)) ∧ Ext (fun q => q = b) w w' := by
 have hbl := hL.lt
 have hBn := hB.lt
 have hndl : (l.map (·.1)).Nodup := by
   have := hL.nodup
   rw [mv, List.map_map] at this
   exact this
 refine X.enter Tryz.func75 rfl Tryz.ntmps75 rfl<|Zs<|Zr<|Zom rfl rfl<|Zc (X.rangeE (enc := (fun x : Int × Int => Value.agg #[.int .i64 x.1, .int .i64 x.2])) Zu77 hL rfl) rfl ?_
 rintro _ w1 ⟨rfl, hI1, hk1, hz1⟩
 refine Ze<|Zb<|X.loopL (σ := List (Int × Int)) (fun s => [(0, .map (some b)), (1, .func (.func 76) #[] #[ptrV bn]), (7, .pointer (some ⟨w.heap.size, 0, none⟩))]) (fun s w' => ItW (fun x : Int × Int => encPl x) w' w.heap.size b (mv (fun v : Bool => Value.bool v) (kpt k s l)) s ∧ s.Nodup ∧ (∀ a, a ∈ s → a ∈ l.map (·.1)) ∧ Blk w' bn [.int .i64 k] 3 ∧ Ext (fun q => q = b) w w') (fun s => l.length + 1 - s.length) [] ⟨rfl, rfl, rfl, trivial⟩ ⟨by rw [kpt_nil]; exact (hI1).weak, List.nodup_nil, fun _ h => (by simp at h), (hB.keep hk1), (hk1).mono (fun _ _ h => h.elim)⟩ ?_
 rintro ds e w1 ⟨hI, hnd, hin, hBl, hx0⟩ hback
 have hx0' := hx0.size
 have hIl := hI.lt
 refine Zs<|Zr<|Zc (X.nextWE hI rfl) rfl ?_
 rintro _ w2 (⟨rfl, hall2, rfl⟩ | ⟨p2, hp2, hpn2, rfl, hI2, hx2, hz2⟩)
 ·
  refine Zo (X.extr rfl rfl) rfl<|Ze<|Zs<|Zf rfl<|Zx rfl<|X.end0 Tryz.func75 Tryz.results75 ?_
  refine ⟨rfl, ?_, hx0⟩
  have e := kpt_all (fun p hp => hall2 (p.1, .bool p.2) (List.mem_map.2 ⟨p, hp, rfl⟩))
  rw [MPL, MpV, ← e]
  exact hI.mp
 ·have hx2' := hx2.size
  obtain ⟨q, hq, rfl⟩ := kpt_mv k ds l hp2
  dsimp only at hpn2 hI2
  refine Zo (X.extr rfl rfl) rfl<|Ze<|Zs<|Zt rfl<|Zk<|Zb<|Zs<|Zr<|Zo (X.entryE hI2 hp2 rfl) rfl<|Zo (X.extr rfl rfl) rfl<|Zo (X.extr rfl rfl) rfl<|Zc (X.allocE Tryz.zeroValue165 rfl) rfl ?_
  rintro _ w3 ⟨rfl, hB3, hk3, hz3⟩
  refine Zc (X.storeNE Zs165 hB3 rfl rfl rfl rfl (fun u hu => by simp at hu; rcases hu with rfl | rfl <;> rfl)) rfl ?_
  rintro _ w4 ⟨hB4, hx4, hz4⟩
  refine Zoao rfl rfl<|Ze<|Zs<|Zr<|Zom rfl rfl<|Zo (X.loadNB Tryz.isAgg165 Zs165 hB4 rfl rfl rfl) rfl<|Zomo rfl rfl<|Zc (X.callVE (vs := [_, _]) rfl (Sync1_c q.1 q.2 _ ((hBl.ext hx2 (by first | (intros; (try simp only [] at *); omega) | (intro hh; have hh : _ = _ := hh; omega))).keep (hk3.step hx4 zq34))) Tryz.call76 rfl) rfl ?_
  rintro _ w5 ⟨rfl, hk5⟩
  have hk5' := hk5.size
  refine Ze<|X.condB rfl (fun hc => ?_) (fun hc => ?_)
  ·refine Zr<|Zom rfl rfl<|Zo (X.loadNB Tryz.isAgg165 Zs165 (hB4.keep hk5) rfl rfl rfl) rfl<|Zc (X.deleteItE Zu77 keyPl (It.weak (((hI2.keep hk3).ext hx4 (by intro hh; (try simp only [] at hh); omega) (by intro hh; (try simp only [] at hh); omega)).keep hk5)) List.mem_cons_self rfl rfl) rfl ?_
   rintro _ w6 ⟨rfl, hD6, hx6, hz6⟩
   refine Ze<|Zi ?_
   refine hback (q.1 :: ds) _ _ ⟨rfl, rfl, rfl, trivial⟩ ⟨(by rw [← kpt_del hndl (by simpa using hc), ← del_mv]; exact hD6), List.nodup_cons.2 ⟨hpn2, hnd⟩, (fun a ha => (List.mem_cons.1 ha).elim (fun e => by rw [e]; exact List.mem_map.2 ⟨q, kpt_sub k ds l q hq, rfl⟩) (hin a)), (((hBl.ext hx2 (by first | (intros; (try simp only [] at *); omega) | (intro hh; have hh : _ = _ := hh; omega))).keep ((hk3.step hx4 zq34).trans hk5)).ext hx6 (by first | (intros; (try simp only [] at *); omega) | (intro hh; have hh : _ = _ := hh; omega))), (Ext.andThen (Ext.andThen (Ext.andThen (Ext.andThen (Ext.andThen (Ext.andThen (Ext.refl (fun q => q = b) _) hx0 zq29) hx2 zq29) hk3 zq29) hx4 zq29) hk5 zq29) hx6 zq29)⟩ (by have := nodup_len (ks := l.map (·.1)) (List.nodup_cons.2 ⟨hpn2, hnd⟩) (fun a ha => (List.mem_cons.1 ha).elim (fun e => by rw [e]; exact List.mem_map.2 ⟨q, kpt_sub k ds l q hq, rfl⟩) (hin a)); simp only [List.length_map, List.length_cons] at this ⊢; omega)
  ·refine Zk<|Zi ?_
   refine hback (q.1 :: ds) _ _ ⟨rfl, rfl, rfl, trivial⟩ ⟨(by rw [kpt_keep (by simpa using hc)]; exact It.weak (((hI2.keep hk3).ext hx4 (by intro hh; (try simp only [] at hh); omega) (by intro hh; (try simp only [] at hh); omega)).keep hk5)), List.nodup_cons.2 ⟨hpn2, hnd⟩, (fun a ha => (List.mem_cons.1 ha).elim (fun e => by rw [e]; exact List.mem_map.2 ⟨q, kpt_sub k ds l q hq, rfl⟩) (hin a)), ((hBl.ext hx2 (by first | (intros; (try simp only [] at *); omega) | (intro hh; have hh : _ = _ := hh; omega))).keep ((hk3.step hx4 zq34).trans hk5)), (Ext.andThen (Ext.andThen (Ext.andThen (Ext.andThen (Ext.andThen (Ext.refl (fun q => q = b) _) hx0 zq29) hx2 zq29) hk3 zq29) hx4 zq29) hk5 zq29)⟩ (by have := nodup_len (ks := l.map (·.1)) (List.nodup_cons.2 ⟨hpn2, hnd⟩) (fun a ha => (List.mem_cons.1 ha).elim (fun e => by rw [e]; exact List.mem_map.2 ⟨q, kpt_sub k ds l q hq, rfl⟩) (hin a)); simp only [List.length_map, List.length_cons] at this ⊢; omega)
def fat (fs : List FILE) (k : Int) : FILE := fs.getD k.toNat ([], [])
theorem fat_at {fs : List FILE} {k : Int} {f : FILE} (h : fs[k.toNat]? = some f) : fat fs k = f := by rw [fat, List.getD_eq_getElem?_getD, h]; rfl
def DS.sync (nm : ByteArray) (s : DS) : Int × DS :=
  if s.down = true then (54, s) else match asc nm s.dir with
  | none => (52, s)
  | some k => (0, ({ s with fs := s.fs.set k.toNat ((fat s.fs k).1, (fat s.fs k).1), ls := s.ls.filter fun p => decide (p.1.1 ≠ k) } : DS).did)
theorem Sync_c {col : Nat → Nat} {b bf bd bx bl : Nat} {A : Option Addr} {n c : Nat} {pt : List Nat} {s0 : DS} (nm : ByteArray) (w : World) (h : DkB col w b bf bd bx bl A n c pt s0) (hok : s0.Ok) (hnm : nm.size ≤ 9223372036854775807) : Ret Tryz.prog 34 #[ptrV b, .string nm] w fun r w' => r = .int .i64 (s0.sync nm).1 ∧ ∃ col', DkR col' w' b (s0.sync nm).2 ∧ Stp col w col' w' := by
 have hbl := h.B.lt
 have hfl := h.F.lt
 have hdl := h.G.lt
 have hxl := h.X.lt
 have hll := h.L.lt
 have hcb := h.cb
 have hcf := h.cf
 have hcd := h.cd
 have hcx := h.cx
 have hcl := h.cl
 obtain ⟨z1, z2, z3, z4, z5, z6, z7, z8, z9, z10⟩ := h.ne
 have hlt := h.lt
 have hok1 := hok.lf
 have hok2 := hok.few
 refine X.enter Zf34 rfl Tryz.ntmps34 rfl<|Zs<|Zr<|Zoa rfl rfl<|Ze<|Zs<|Zs<|Zr<|Zom rfl rfl<|Zc (X.callE (may_c_disk _ h.B) Zc68 rfl rfl) rfl ?_
 rintro _ w1 ⟨rfl, hk1⟩
 have hk1' := hk1.size
 refine Zoai rfl rfl<|Ze<|Zs<|Zr<|Zomi rfl rfl<|X.opP X.wN rfl rfl (X.neI rfl rfl) (fun h12 => ?_) (fun h12 => ?_)
 ·have hd : (s0.fu && decide (s0.lf ≤ 0)) = true := by
    cases hq : (s0.fu && decide (s0.lf ≤ 0)) with
    | true => rfl
    | false => rw [hq] at h12; simp at h12
  have hD : s0.down = true := hd
  refine Ze<|Zt rfl<|Zs<|Zr<|Zomi rfl rfl<|Zoai rfl rfl<|Ze<|X.ret1 (v := (.int .i64 _)) Zf34 Zr34 rfl ?_
  have e : s0.sync nm = (54, s0) := by simp only [DS.sync, if_pos hD]
  rw [e]
  exact ⟨by rw [if_pos hd], col, (h.keep hk1).r, Stp.keep hk1⟩
 ·have hd : ¬ (s0.fu && decide (s0.lf ≤ 0)) = true := by
    cases hq : (s0.fu && decide (s0.lf ≤ 0)) with
    | false => simp
    | true => rw [hq] at h12; simp at h12
  have hD : ¬ s0.down = true := hd
  refine Ze<|Zf rfl<|Zk<|Zs<|Zr<|Zom rfl rfl<|Zomg rfl rfl<|Zc (X.callE (named_c nm _ (h.B.keep hk1) (h.G.keep hk1) (h.F.keep hk1)) Zc52 rfl rfl) rfl ?_
  rintro _ w2 ⟨rfl, hk2⟩
  have hk2' := hk2.size
  refine Zom rfl rfl<|Zo (X.extr rfl rfl) rfl<|Zo (X.extr rfl rfl) rfl<|Zo (X.extr rfl rfl) rfl<|Zc (X.allocE Zv3 rfl) rfl ?_
  rintro _ w3 ⟨rfl, hB3, hk3, hz3⟩
  refine Zc (X.storeE Zs3 hB3 rfl rfl rfl rfl) rfl ?_
  rintro _ w4 ⟨hB4, hx4, hz4⟩
  refine Zoa rfl rfl<|Zoao rfl rfl<|Ze<|Zs<|Zs<|Zr<|Zomo rfl rfl<|Zo (X.not_ rfl) rfl<|Ze<|X.condB rfl (fun hc => ?_) (fun hc => ?_)
  ·have hno : asc nm s0.dir = none := by
     cases ha : asc nm s0.dir with
     | none => rfl
     | some k => rw [ha] at hc; simp at hc
   refine Zs<|Zr<|Zoa rfl rfl<|Ze<|X.ret1 (v := (.int .i64 _)) Zf34 Zr34 rfl ?_
   have e : s0.sync nm = (52, s0) := by simp only [DS.sync, if_neg hD, hno]
   rw [e]
   exact ⟨rfl, col, (h.keep (((hk1.trans hk2).trans hk3).step hx4 zq34)).r, Stp.keep (((hk1.trans hk2).trans hk3).step hx4 zq34)⟩
  ·obtain ⟨k, hfa⟩ : ∃ k, asc nm s0.dir = some k := by
     cases ha : asc nm s0.dir with
     | none => rw [ha] at hc; simp at hc
     | some k => exact ⟨k, rfl⟩
   obtain ⟨hka, hkb, _⟩ := hok.dir _ (asc_some hfa)
   have hka : 0 ≤ k := hka
   have hkb : k < s0.fs.length := hkb
   obtain ⟨pf, f, A1, n1, c1, A2, n2, c2, hfb, hpf, hff, hn1, hn2, hfl1, hpc, hBf, hM1, hM2⟩ := h.at_ hka hkb
   have hlf := hok.len hff
   have hpl2 := hBf.lt
   rw [hfa, Option.getD_some, hfb, Option.getD_some]
   rw [hfa, Option.getD_some] at hB4
   refine Zk<|Zs<|Zr<|Zom rfl rfl<|Zom rfl rfl<|Zo (X.nilCk rfl) rfl<|Zo (X.fldB (j := 0) Zu136 rfl rfl Zs81 rfl) rfl<|Zo (X.load1B Zi81 (hBf.keep (((hk1.trans hk2).trans hk3).step hx4 zq34)) rfl rfl) rfl ?_
   refine Zc (X.callE (CloneB_c _ ((((((hM1.keep hk1).keep hk2).keep hk3).ext hx4 (by intros; omega) zq2)).rd KB_flat).2 Zz) Tryz.call74 rfl rfl) rfl ?_
   rintro _ w5 ⟨A', c', rfl, hcc, hMc, hk5⟩
   have hk5' := hk5.size
   refine Zo (X.nilCk rfl) rfl<|Zo (X.fldB (j := 1) Zu136 rfl rfl Zs81 rfl) rfl<|Zc (X.storeE Zs81 (hBf.keep ((((hk1.trans hk2).trans hk3).step hx4 zq34).trans hk5)) rfl rfl rfl rfl) rfl ?_
   rintro _ w6 ⟨hB6, hx6, hz6⟩
   refine Ze<|Zs<|Zr<|Zom rfl rfl<|Zo (X.nilCk rfl) rfl<|Zo (X.fldB (j := 6) Zu80 rfl rfl Tryz.sizeOf77 rfl) rfl<|Zo (X.load1B Tryz.isAgg77 ((h.B.keep ((((hk1.trans hk2).trans hk3).step hx4 zq34).trans hk5)).ext hx6 zq2) rfl rfl) rfl ?_
   refine Zo (X.mkFunc rfl) rfl<|Zc (X.callE (DelFunc_c _ ((((((h.L.keep hk1).keep hk2).keep hk3).ext hx4 zq2).keep hk5).ext hx6 zq2) ((hB4.keep hk5).ext hx6 zq2) Zz) Tryz.call75 rfl rfl) rfl ?_
   rintro _ w7 ⟨rfl, hLd, hx7⟩
   have hx7' := hx7.size
   refine Ze<|Zs<|Zr<|Zom rfl rfl<|Zc (X.callE (did_c _ (((h.B.keep ((((hk1.trans hk2).trans hk3).step hx4 zq34).trans hk5)).ext hx6 zq2).ext hx7 zq2) Zz) Zc71 rfl rfl) rfl ?_
   rintro _ w8 ⟨rfl, hBd, hxd⟩
   have hxd' := hxd.size
   refine Zoai rfl rfl<|Ze<|X.ret1 (v := (.int .i64 _)) Zf34 Zr34 rfl ?_
   have hfat := fat_at hff
   have hx : Ext (fun q => col q = 1 ∨ col q = 5 ∨ col q = 7 + 3 * k.toNat) w w8 := (Ext.andThen (Ext.andThen (Ext.andThen (Ext.andThen (Ext.andThen (Ext.andThen (Ext.andThen (Ext.andThen (Ext.refl (fun q => col q = 1 ∨ col q = 5 ∨ col q = 7 + 3 * k.toNat) _) hk1 zq12) hk2 zq12) hk3 zq12) hx4 zq12) hk5 zq12) hx6 zq12) hx7 zq12) hxd zq12)
   have hxs := hx.size
   obtain ⟨col', hcol⟩ : ∃ col', col' = rec' col w.heap.size w8.heap.size (9 + 3 * k.toNat) := ⟨_, rfl⟩
   have hold : ∀ q, q < w.heap.size → col' q = col q := fun q hq => by rw [hcol]; exact rec_old hq
   have hnew : ∀ q, w.heap.size ≤ q → q < w8.heap.size → col' q = 9 + 3 * k.toNat := fun q h1 h2 => by rw [hcol]; exact rec_new h1 h2
   have hltc : ∀ q, col' q ≠ 0 → q < w8.heap.size := fun q hq => by rw [hcol] at hq; exact rec_lt hlt hxs hq
   have P := h.part (col' := col') (fun v => v = 1 ∨ v = 5 ∨ v = 7 + 3 * k.toNat) hx hold (fun q hq ht => ht)
   have hst : Stp col w col' w8 := ⟨hold, hx.mono (fun q _ t => by (try simp only [] at t); omega)⟩
   have e : s0.sync nm = (0, ({ s0 with fs := s0.fs.set k.toNat (f.1, f.1), ls := s0.ls.filter fun p => decide (p.1.1 ≠ k) } : DS).did) := by simp only [DS.sync, if_neg hD, hfa, hfat]
   rw [e]
   refine ⟨rfl, col', ⟨bf, bd, bx, bl, A, n, c, pt, ?_, P.F Zz, P.G Zz, P.X Zz, (hLd.ext hxd zq2), P.M Zz, P.cb, P.cf, P.cd, P.cx, P.cl, hltc, ?_, ?_⟩, hst⟩
   ·have := hBd
    simp only [DS.did, List.length_set]
    exact this
   ·simp only [DS.did, List.length_set]; exact P.pl
   ·intro j q g h1 h2
    by_cases hj : j = k.toNat
    ·subst hj
     rw [hpf] at h1
     have h2' : (s0.fs.set k.toNat (f.1, f.1))[k.toNat]? = some g := h2
     rw [List.getElem?_set_self Zz] at h2'
     cases h1; cases h2'
     exact ⟨(hold _ hpl2).trans hpc, _, _, _, _, _, _, ((hB6.ext hx7 zq2).ext hxd zq2), (((((((((hM1.keep hk1).keep hk2).keep hk3).ext hx4 (by intros; omega) zq2).keep hk5).ext hx6 (by intros; omega) zq2).ext hx7 (by intros; omega) zq2).ext hxd (by intros; omega) zq2).mono (fun q hq hS => by rw [hold q (hlt q (by (try simp only [] at hS); omega))]; exact hS)), ((((hMc.ext hx6 (by intros; omega) zq2).ext hx7 (by intros; omega) zq2).ext hxd (by intros; omega) zq2).mono (fun q hq hS => hnew q (by (try simp only [] at hS); omega) (by (try simp only [] at hS); omega)))⟩
    ·have h2' : (s0.fs.set k.toNat (f.1, f.1))[j]? = some g := h2
     rw [List.getElem?_set_ne (fun e => hj e.symm)] at h2'
     exact P.fl j q g h1 h2' (fun v a1 a2 => by omega)
def DS.read (nm : ByteArray) (a n : Int) (s : DS) : List UInt8 × Int :=
  match asc nm s.dir with
  | none => ([], 52)
  | some k => if a < 0 ∨ n < 0 ∨ ((fat s.fs k).1.length : Int) < a ∨ ((fat s.fs k).1.length : Int) - a < n then ([], 5) else (((fat s.fs k).1.drop a.toNat).take n.toNat, 0)
def DS.sizeOf (nm : ByteArray) (s : DS) : Int × Int := match asc nm s.dir with
  | none => (0, 52)
  | some k => ((flen s.fs k : Int), 0)
def DS.fuse (n : Int) (s : DS) : Int × DS := if n < 0 ∨ 1048576 < n then (5, s) else (0, { s with fu := true, lf := n })
theorem Read_c {col : Nat → Nat} {b bf bd bx bl : Nat} {A : Option Addr} {nn c : Nat} {pt : List Nat} {s0 : DS} (nm : ByteArray) (a n : Int) (w : World) (h : DkB col w b bf bd bx bl A nn c pt s0) (hok : s0.Ok) (han : -9223372036854775808 ≤ a ∧ a ≤ 9223372036854775807 ∧ -9223372036854775808 ≤ n ∧ n ≤ 9223372036854775807) : Ret Tryz.prog 36 #[ptrV b, .string nm, .int .i64 a, .int .i64 n] w fun r w' => ∃ v, r = .tuple #[v, .int .i64 (s0.read nm a n).2] ∧ Mine KB 5 (fun q => w.heap.size ≤ q ∧ q < w'.heap.size) 0 0 w' v (s0.read nm a n).1 ∧ Keep w w' := by
 have hbl := h.B.lt
 have hfl := h.F.lt
 have hdl := h.G.lt
 have hxl := h.X.lt
 have hll := h.L.lt
 have hcb := h.cb
 have hcf := h.cf
 have hcd := h.cd
 have hcx := h.cx
 have hcl := h.cl
 obtain ⟨z1, z2, z3, z4, z5, z6, z7, z8, z9, z10⟩ := h.ne
 have hlt := h.lt
 have hok1 := hok.lf
 have hok2 := hok.few
 refine X.enter Zf36 rfl Tryz.ntmps36 rfl<|Zs<|Zr<|Zoa rfl rfl<|Zoa rfl rfl<|Ze<|Zs<|Zs<|Zr<|Zom rfl rfl<|Zc (X.callE (is_c _ h.B) Zc51 rfl rfl) rfl ?_
 rintro _ w1 ⟨rfl, hk1⟩
 have hk1' := hk1.size
 refine Zo (X.not_ rfl) rfl<|Ze<|Zf rfl<|Zk<|Zs<|Zr<|Zom rfl rfl<|Zomg rfl rfl<|Zc (X.callE (named_c nm _ (h.B.keep hk1) (h.G.keep hk1) (h.F.keep hk1)) Zc52 rfl rfl) rfl ?_
 rintro _ w2 ⟨rfl, hk2⟩
 have hk2' := hk2.size
 refine Zom rfl rfl<|Zo (X.extr rfl rfl) rfl<|Zo (X.extr rfl rfl) rfl<|Zo (X.extr rfl rfl) rfl<|Zoai rfl rfl<|Zoa rfl rfl<|Zoao rfl rfl<|Ze<|Zs<|Zs<|Zr<|Zomo rfl rfl<|Zo (X.not_ rfl) rfl<|Ze<|X.condB rfl (fun hc => ?_) (fun hc => ?_)
 ·have hno : asc nm s0.dir = none := by
    cases ha : asc nm s0.dir with
    | none => rfl
    | some k => rw [ha] at hc; simp at hc
  refine Zs<|Zr<|Zoa rfl rfl<|Zoa rfl rfl<|Ze<|X.ret2 (v2 := (.int .i64 _)) Zf36 Zr36 rfl rfl ?_
  have e : s0.read nm a n = ([], 52) := by simp only [DS.read, hno]
  rw [e]
  exact ⟨_, rfl, Mine.nil _ _ _ _ _ _, (hk1.trans hk2)⟩
 ·obtain ⟨k, hfa⟩ : ∃ k, asc nm s0.dir = some k := by
    cases ha : asc nm s0.dir with
    | none => rw [ha] at hc; simp at hc
    | some k => exact ⟨k, rfl⟩
  obtain ⟨hka, hkb, _⟩ := hok.dir _ (asc_some hfa)
  have hka : 0 ≤ k := hka
  have hkb : k < s0.fs.length := hkb
  obtain ⟨pf, f, A1, n1, c1, A2, n2, c2, hfb, hpf, hff, hn1, hn2, hfl1, hpc, hBf, hM1, hM2⟩ := h.at_ hka hkb
  have hlf := hok.len hff
  have hpl2 := hBf.lt
  rw [hfa, Option.getD_some, hfb, Option.getD_some]
  have hfat := fat_at hff
  have hcc1 := (hM1.rd KB_flat).1
  refine Zk<|Zs<|Zs<|Zr<|Zomi rfl rfl<|Zomi rfl rfl<|Zo (X.minII rfl rfl) rfl<|X.opP X.wN rfl rfl (X.lss rfl rfl) (fun h28 => ?_) (fun h28 => ?_)
  ·have h28 : (if n < a then n else a) < 0 := h28
   have h28 : a < 0 ∨ n < 0 := by split at h28 <;> omega
   refine Zomt rfl rfl<|Zp rfl rfl rfl<|Zp rfl rfl rfl<|Zp rfl rfl rfl<|Zp rfl rfl rfl<|Zp rfl rfl rfl<|Zp rfl rfl rfl<|Zp rfl rfl rfl<|Zo (ZdTt rfl rfl) rfl<|Zomt rfl rfl<|Zp rfl rfl rfl<|Zp rfl rfl rfl<|Zp rfl rfl rfl<|Zp rfl rfl rfl<|Zp rfl rfl rfl<|Zp rfl rfl rfl<|Zp rfl rfl rfl<|Zp rfl rfl rfl<|Zp rfl rfl rfl<|Zo (ZdTt rfl rfl) rfl<|Ze<|Zt rfl<|Zs<|Zr<|Zoa rfl rfl<|Zoa rfl rfl<|Ze<|X.ret2 (v2 := (.int .i64 _)) Zf36 Zr36 rfl rfl ?_
   have e : s0.read nm a n = ([], 5) := by
     simp only [DS.read, hfa, hfat]
     rw [if_pos Zz]
   rw [e]
   exact ⟨_, rfl, Mine.nil _ _ _ _ _ _, (hk1.trans hk2)⟩
  ·have h28 : ¬ (if n < a then n else a) < 0 := h28
   have h28 : 0 ≤ a ∧ 0 ≤ n := by split at h28 <;> omega
   refine Zomf rfl rfl<|Zg (Zdmi rfl) rfl rfl rfl rfl<|Zg (X.move rfl) rfl rfl rfl rfl<|Zg (X.nilCk rfl) rfl rfl rfl rfl<|Zg (X.fldB (j := 0) Zu136 rfl rfl Zs81 rfl) rfl rfl rfl rfl<|Zg (X.load1B Zi81 (hBf.keep (hk1.trans hk2)) rfl rfl) rfl rfl rfl rfl<|Zg (X.lenSl Zu81 rfl) rfl rfl rfl rfl<|X.opP (X.wG rfl rfl rfl) rfl rfl (X.gtr rfl rfl) (fun h36 => ?_) (fun h36 => ?_)
   ·refine Zo (ZdFt rfl rfl) rfl<|Zomt rfl rfl<|Zp rfl rfl rfl<|Zp rfl rfl rfl<|Zp rfl rfl rfl<|Zp rfl rfl rfl<|Zp rfl rfl rfl<|Zp rfl rfl rfl<|Zp rfl rfl rfl<|Zp rfl rfl rfl<|Zp rfl rfl rfl<|Zo (ZdTt rfl rfl) rfl<|Ze<|Zt rfl<|Zs<|Zr<|Zoa rfl rfl<|Zoa rfl rfl<|Ze<|X.ret2 (v2 := (.int .i64 _)) Zf36 Zr36 rfl rfl ?_
    have e : s0.read nm a n = ([], 5) := by
      simp only [DS.read, hfa, hfat]
      rw [if_pos Zz]
    rw [e]
    exact ⟨_, rfl, Mine.nil _ _ _ _ _ _, (hk1.trans hk2)⟩
   ·refine Zo (ZdFf rfl rfl) rfl<|Zomf rfl rfl<|Zg (Zdmi rfl) rfl rfl rfl rfl<|Zg (X.move rfl) rfl rfl rfl rfl<|Zg (X.nilCk rfl) rfl rfl rfl rfl<|Zg (X.fldB (j := 0) Zu136 rfl rfl Zs81 rfl) rfl rfl rfl rfl<|Zg (X.load1B Zi81 (hBf.keep (hk1.trans hk2)) rfl rfl) rfl rfl rfl rfl<|Zg (X.lenSl Zu81 rfl) rfl rfl rfl rfl<|Zg (Zdmi rfl) rfl rfl rfl rfl<|Zg (X.sub rfl rfl (X.w_i64 Zz)) rfl rfl rfl rfl<|X.opP (X.wG rfl rfl rfl) rfl rfl (X.gtr rfl rfl) (fun h47 => ?_) (fun h47 => ?_)
    ·refine Zo (ZdFt rfl rfl) rfl<|Ze<|Zt rfl<|Zs<|Zr<|Zoa rfl rfl<|Zoa rfl rfl<|Ze<|X.ret2 (v2 := (.int .i64 _)) Zf36 Zr36 rfl rfl ?_
     have e : s0.read nm a n = ([], 5) := by
       simp only [DS.read, hfa, hfat]
       rw [if_pos Zz]
     rw [e]
     exact ⟨_, rfl, Mine.nil _ _ _ _ _ _, (hk1.trans hk2)⟩
    ·refine Zo (ZdFf rfl rfl) rfl<|Ze<|Zf rfl<|Zk<|Zs<|Zr<|Zom rfl rfl<|Zo (X.nilCk rfl) rfl<|Zo (X.fldB (j := 0) Zu136 rfl rfl Zs81 rfl) rfl<|Zo (X.load1B Zi81 (hBf.keep (hk1.trans hk2)) rfl rfl) rfl<|Zomi rfl rfl<|Zomi rfl rfl<|Zomi rfl rfl<|Zo (X.add rfl rfl (X.w_i64 Zz)) rfl<|Zo (X.cutLH Zu81 Zs5 rfl rfl rfl ⟨by omega, by omega, by omega⟩) rfl<|Zc (X.callE (CloneB_c _ (((((hM1.rd KB_flat).2.take (a + n).toNat Zz).drop a.toNat c1 Zz Zz)).keep (hk1.trans hk2)) Zz) Tryz.call74 rfl rfl) rfl ?_
     rintro _ w3 ⟨A', c', rfl, hcc, hMc, hk3⟩
     have hk3' := hk3.size
     refine Zoa rfl rfl<|Zoa rfl rfl<|Ze<|X.ret2 (v2 := (.int .i64 _)) Zf36 Zr36 rfl rfl ?_
     have e : s0.read nm a n = ((f.1.take (a + n).toNat).drop a.toNat, 0) := by
       simp only [DS.read, hfa, hfat]
       rw [if_neg Zz, List.drop_take, show (a + n).toNat - a.toNat = n.toNat by omega]
     rw [e]
     exact ⟨_, rfl, hMc.mono (fun q hq h => ⟨by omega, h.2⟩), ((hk1.trans hk2).trans hk3)⟩
section
variable {col : Nat → Nat} {w : World} {b : Nat} {s : DS}
theorem sizeR_c (h : DkR col w b s) (hok : s.Ok) (nm : ByteArray) : Ret Tryz.prog 35 #[ptrV b, .string nm] w fun r w' => r = .tuple #[.int .i64 (s.sizeOf nm).1, .int .i64 (s.sizeOf nm).2] ∧ Keep w w' := by
  obtain ⟨bf, bd, bx, bl, A, n, c, pt, h⟩ := h
  have hfile : ∀ k, asc nm s.dir = some k → ∃ pf f A1 n1 c1 A2 n2 c2, asc k (fmapF 0 pt) = some (ptrV pf) ∧ pt[k.toNat]? = some pf ∧ s.fs[k.toNat]? = some f ∧ n1 = f.1.length ∧ n2 = f.2.length ∧ flen s.fs k = n1 ∧ col pf = 7 + 3 * k.toNat ∧ Blk w pf (fiL A1 n1 c1 A2 n2 c2) 136 ∧ Row KB 5 (fun q => col q = 8 + 3 * k.toNat) 0 0 w (.slice A1 n1 c1) f.1 ∧ Mine KB 5 (fun q => col q = 9 + 3 * k.toNat) 0 0 w (.slice A2 n2 c2) f.2 := fun k hk => by
    obtain ⟨h1, h2, _⟩ := hok.dir _ (asc_some hk)
    exact h.at_ h1 h2
  refine (Size_c nm w h.B h.G h.F fun k hk => ?_).mono ?_
  · obtain ⟨pf, f, A1, n1, c1, A2, n2, c2, e1, _, _, _, _, _, _, e2, _, _⟩ := hfile k hk
    exact ⟨pf, A1, n1, c1, A2, n2, c2, e1, e2⟩
  · rintro r w' ⟨h1, hk⟩
    refine ⟨?_, hk⟩
    rcases h1 with ⟨h2, rfl⟩ | ⟨k, pf, A1, n1, c1, A2, n2, c2, h2, h3, h4, rfl⟩
    · simp only [DS.sizeOf, h2]
    · obtain ⟨pf', f, A1', n1', c1', A2', n2', c2', e1, _, _, _, _, e6, _, e2, _, _⟩ := hfile k h2
      rw [h3] at e1
      cases e1
      unfold Blk at h4 e2
      rw [h4] at e2
      simp at e2
      simp only [DS.sizeOf, h2, e6, e2.1.2.1]
theorem DkR.blk (h : DkR col w b s) : ∃ bf bd bx bl A n c, Blk w b (dkL s.rm (some bf) (s.fs.length : Int) (some bd) (some bx) A n c (some bl) s.fu s.lf) 80 := let ⟨bf, bd, bx, bl, A, n, c, pt, h⟩ := h; ⟨bf, bd, bx, bl, A, n, c, h.B⟩
theorem createR_c (h : DkR col w b s) (hok : s.Ok) (nm : ByteArray) (hnm : nm.size ≤ 9223372036854775807) (hsz : s.size ≤ 100000) : Ret Tryz.prog 32 #[ptrV b, .string nm] w fun r w' => r = .int .i64 (s.create nm).1 ∧ ∃ col', DkR col' w' b (s.create nm).2 ∧ Stp col w col' w' := let ⟨_, _, _, _, _, _, _, _, h⟩ := h; Create_c nm w h hok hnm hsz
theorem syncR_c (h : DkR col w b s) (hok : s.Ok) (nm : ByteArray) (hnm : nm.size ≤ 9223372036854775807) : Ret Tryz.prog 34 #[ptrV b, .string nm] w fun r w' => r = .int .i64 (s.sync nm).1 ∧ ∃ col', DkR col' w' b (s.sync nm).2 ∧ Stp col w col' w' := let ⟨_, _, _, _, _, _, _, _, h⟩ := h; Sync_c nm w h hok hnm
theorem readR_c (h : DkR col w b s) (hok : s.Ok) (nm : ByteArray) (a n : Int) (han : -9223372036854775808 ≤ a ∧ a ≤ 9223372036854775807 ∧ -9223372036854775808 ≤ n ∧ n ≤ 9223372036854775807) : Ret Tryz.prog 36 #[ptrV b, .string nm, .int .i64 a, .int .i64 n] w fun r w' => ∃ v, r = .tuple #[v, .int .i64 (s.read nm a n).2] ∧ Mine KB 5 (fun q => w.heap.size ≤ q ∧ q < w'.heap.size) 0 0 w' v (s.read nm a n).1 ∧ Keep w w' := let ⟨_, _, _, _, _, _, _, _, h⟩ := h; Read_c nm a n w h hok han
end
theorem E8e : ByteInfo Tryz.prog 5 := ByteInfo.of Zl
def wrt (b : List UInt8) (a : Nat) (x : List UInt8) : List UInt8 := (fun y : List UInt8 => y.take a ++ x ++ y.drop (a + x.length)) (b ++ List.replicate (max b.length (a + x.length) - b.length) 0)
def markL (k : Int) : Nat → Nat → LS → LS
  | _, 0, l => l
  | s, n + 1, l => markL k (s + 1) n (put (k, (s : Int)) true l)
def secs (n : Nat) : Nat := (n + 63) / 64
def touched (a n : Nat) : Nat := if n = 0 then 0 else secs (a + n) - a / 64
def DS.write (nm : ByteArray) (a : Int) (x : List UInt8) (s : DS) : Int × DS :=
  if s.down = true then (54, s) else match asc nm s.dir with
  | none => (52, s)
  | some k => if a < 0 ∨ ((fat s.fs k).1.length : Int) < a then (5, s) else if 1048576 - a < (x.length : Int) then (2, s)
    else if s.rm < (s.used : Int) + (secs (max (fat s.fs k).1.length (a.toNat + x.length)) : Int) - (secs (fat s.fs k).1.length : Int) then (53, s)
    else (0, ({ s with fs := s.fs.set k.toNat (wrt (fat s.fs k).1 a.toNat x, (fat s.fs k).2), ls := markL k (a.toNat / 64) (touched a.toNat x.length) s.ls } : DS).did)
theorem wrt_len (b : List UInt8) (a : Nat) (x : List UInt8) (h : a ≤ b.length) : (wrt b a x).length = max b.length (a + x.length) := by
  simp only [wrt, List.length_append, List.length_take, List.length_drop, List.length_replicate]; omega
theorem Write_c {col : Nat → Nat} {b bf bd bx bl : Nat} {A : Option Addr} {n c : Nat} {pt : List Nat} {s0 : DS} {lo hi m2 cy : Nat} {Ay : Option Addr} {y : List UInt8} (nm : ByteArray) (a : Int) (w : World) (h : DkB col w b bf bd bx bl A n c pt s0) (hok : s0.Ok) (ha : -9223372036854775808 ≤ a ∧ a ≤ 9223372036854775807) (hy : Sl KB lo hi w Ay m2 y) (hy0 : ∀ q, lo ≤ q → q < hi → col q = 0 ∧ q < w.heap.size) (hym : m2 ≤ 1000000000) : Ret Tryz.prog 33 #[ptrV b, .string nm, .int .i64 a, .slice Ay m2 cy] w fun r w' => r = .int .i64 (s0.write nm a y).1 ∧ ∃ col', DkR col' w' b (s0.write nm a y).2 ∧ Stp col w col' w' := by
 have hbl := h.B.lt
 have hfl := h.F.lt
 have hdl := h.G.lt
 have hxl := h.X.lt
 have hll := h.L.lt
 have hcb := h.cb
 have hcf := h.cf
 have hcd := h.cd
 have hcx := h.cx
 have hcl := h.cl
 obtain ⟨z1, z2, z3, z4, z5, z6, z7, z8, z9, z10⟩ := h.ne
 have hlt := h.lt
 have hok1 := hok.lf
 have hok2 := hok.few
 have hyl := hy.len
 have hub := hok.used
 have hrm := hok.rm
 refine X.enter Zf33 rfl Tryz.ntmps33 rfl<|Zs<|Zr<|Zoa rfl rfl<|Ze<|Zs<|Zs<|Zr<|Zom rfl rfl<|Zc (X.callE (may_c_disk _ h.B) Zc68 rfl rfl) rfl ?_
 rintro _ w1 ⟨rfl, hk1⟩
 have hk1' := hk1.size
 refine Zoai rfl rfl<|Ze<|Zs<|Zr<|Zomi rfl rfl<|X.opP X.wN rfl rfl (X.neI rfl rfl) (fun h19 => ?_) (fun h19 => ?_)
 ·have hd : (s0.fu && decide (s0.lf ≤ 0)) = true := by
    cases hq : (s0.fu && decide (s0.lf ≤ 0)) with
    | true => rfl
    | false => rw [hq] at h19; simp at h19
  have hD : s0.down = true := hd
  refine Ze<|Zt rfl<|Zs<|Zr<|Zomi rfl rfl<|Zoai rfl rfl<|Ze<|X.ret1 (v := (.int .i64 _)) Zf33 Zr33 rfl ?_
  have e : s0.write nm a y = (54, s0) := by simp only [DS.write, if_pos hD]
  rw [e]
  exact ⟨by rw [if_pos hd], col, (h.keep hk1).r, Stp.keep hk1⟩
 ·have hd : ¬ (s0.fu && decide (s0.lf ≤ 0)) = true := by
    cases hq : (s0.fu && decide (s0.lf ≤ 0)) with
    | false => simp
    | true => rw [hq] at h19; simp at h19
  have hD : ¬ s0.down = true := hd
  refine Ze<|Zf rfl<|Zk<|Zs<|Zr<|Zom rfl rfl<|Zomg rfl rfl<|Zc (X.callE (named_c nm _ (h.B.keep hk1) (h.G.keep hk1) (h.F.keep hk1)) Zc52 rfl rfl) rfl ?_
  rintro _ w2 ⟨rfl, hk2⟩
  have hk2' := hk2.size
  refine Zom rfl rfl<|Zo (X.extr rfl rfl) rfl<|Zo (X.extr rfl rfl) rfl<|Zo (X.extr rfl rfl) rfl<|Zoai rfl rfl<|Zoa rfl rfl<|Zoao rfl rfl<|Ze<|Zs<|Zb<|Zs<|Zr<|Zomo rfl rfl<|Zo (X.not_ rfl) rfl<|Zoao rfl rfl<|Ze<|X.condB rfl (fun hc => ?_) (fun hc => ?_)
  ·have hno : asc nm s0.dir = none := by
     cases ha : asc nm s0.dir with
     | none => rfl
     | some k => rw [ha] at hc; simp at hc
   refine Zs<|Zr<|Zoa rfl rfl<|Ze<|X.ret1 (v := (.int .i64 _)) Zf33 Zr33 rfl ?_
   have e : s0.write nm a y = (52, s0) := by simp only [DS.write, if_neg hD, hno]
   rw [e]
   exact ⟨rfl, col, (h.keep (hk1.trans hk2)).r, Stp.keep (hk1.trans hk2)⟩
  ·obtain ⟨k, hfa⟩ : ∃ k, asc nm s0.dir = some k := by
     cases ha : asc nm s0.dir with
     | none => rw [ha] at hc; simp at hc
     | some k => exact ⟨k, rfl⟩
   obtain ⟨hka, hkb, _⟩ := hok.dir _ (asc_some hfa)
   have hka : 0 ≤ k := hka
   have hkb : k < s0.fs.length := hkb
   obtain ⟨pf, f, A1, n1, c1, A2, n2, c2, hfb, hpf, hff, hn1, hn2, hfl1, hpc, hBf, hM1, hM2⟩ := h.at_ hka hkb
   have hlf := hok.len hff
   have hpl2 := hBf.lt
   rw [hfa, Option.getD_some, hfb, Option.getD_some]
   have hfat := fat_at hff
   have hfl2 : f.1.length = n1 := hn1.symm
   refine Zs<|Zr<|Zomi rfl rfl<|X.opP X.wN rfl rfl (X.lss rfl rfl) (fun h33 => ?_) (fun h33 => ?_)
   ·refine Zomt rfl rfl<|Zp rfl rfl rfl<|Zp rfl rfl rfl<|Zp rfl rfl rfl<|Zp rfl rfl rfl<|Zp rfl rfl rfl<|Zp rfl rfl rfl<|Zp rfl rfl rfl<|Zo (ZdTt rfl rfl) rfl<|Zoat rfl rfl<|Ze<|Zt rfl<|Zs<|Zr<|Zoa rfl rfl<|Ze<|X.ret1 (v := (.int .i64 _)) Zf33 Zr33 rfl ?_
    have e : s0.write nm a y = (5, s0) := by
      simp only [DS.write, if_neg hD, hfa, hfat]
      rw [if_pos Zz]
    rw [e]
    exact ⟨rfl, col, (h.keep (hk1.trans hk2)).r, Stp.keep (hk1.trans hk2)⟩
   ·obtain ⟨p, rfl⟩ := Int.eq_ofNat_of_zero_le (show 0 ≤ a by omega)
    refine Zomf rfl rfl<|Zg (Zdmi rfl) rfl rfl rfl rfl<|Zg (X.move rfl) rfl rfl rfl rfl<|Zg (X.nilCk rfl) rfl rfl rfl rfl<|Zg (X.fldB (j := 0) Zu136 rfl rfl Zs81 rfl) rfl rfl rfl rfl<|Zg (X.load1B Zi81 (hBf.keep (hk1.trans hk2)) rfl rfl) rfl rfl rfl rfl<|Zg (X.lenSl Zu81 rfl) rfl rfl rfl rfl<|X.opP (X.wG rfl rfl rfl) rfl rfl (X.gtr rfl rfl) (fun h41 => ?_) (fun h41 => ?_)
    ·refine Zo (ZdFt rfl rfl) rfl<|Zoat rfl rfl<|Ze<|Zt rfl<|Zs<|Zr<|Zoa rfl rfl<|Ze<|X.ret1 (v := (.int .i64 _)) Zf33 Zr33 rfl ?_
     have e : s0.write nm (p : Int) y = (5, s0) := by
       simp only [DS.write, if_neg hD, hfa, hfat]
       rw [if_pos Zz]
     rw [e]
     exact ⟨rfl, col, (h.keep (hk1.trans hk2)).r, Stp.keep (hk1.trans hk2)⟩
    ·refine Zo (ZdFf rfl rfl) rfl<|Zoaf rfl rfl<|Ze<|Zf rfl<|Zs<|Zr<|Zom rfl rfl<|Zo (X.lenSl Zu81 rfl) rfl<|Zomi rfl rfl<|Zo (X.sub rfl rfl (X.w_i64 Zz)) rfl<|X.opP X.wN rfl rfl (X.gtr rfl rfl) (fun h48 => ?_) (fun h48 => ?_)
     ·refine Zoat rfl rfl<|Ze<|Zt rfl<|Zs<|Zr<|Zoa rfl rfl<|Ze<|X.ret1 (v := (.int .i64 _)) Zf33 Zr33 rfl ?_
      have e : s0.write nm (p : Int) y = (2, s0) := by
        simp only [DS.write, if_neg hD, hfa, hfat]
        rw [if_neg Zz, if_pos Zz]
      rw [e]
      exact ⟨rfl, col, (h.keep (hk1.trans hk2)).r, Stp.keep (hk1.trans hk2)⟩
     ·refine Zoaf rfl rfl<|Ze<|Zf rfl<|Zk<|Zi<|Zs<|Zr<|Zomi rfl rfl<|Zom rfl rfl<|Zo (X.lenSl Zu81 rfl) rfl<|Zo (X.add (c := ((p + m2 : Nat) : Int)) rfl rfl (by rw [X.w_i64 Zz]; omega)) rfl ?_
      refine Zoai rfl rfl<|Ze<|Zs<|Zr<|Zom rfl rfl<|Zo (X.nilCk rfl) rfl<|Zo (X.fldB (j := 0) Zu136 rfl rfl Zs81 rfl) rfl<|Zo (X.load1B Zi81 (hBf.keep (hk1.trans hk2)) rfl rfl) rfl<|Zo (X.lenSl Zu81 rfl) rfl<|Zomi rfl rfl<|Zo (X.maxII (c := ((max n1 (p + m2) : Nat) : Int)) rfl rfl (by split <;> omega)) rfl ?_
      refine Zoai rfl rfl<|Ze<|Zs<|Zs<|X.regionD (fun _ => False) 17 Zl Zl (fun w3 hk3 hz3 => ?_)
      refine ZDc 0 rfl Zl (X.move rfl)<|ZDc 2 rfl Zl (Zdmi rfl)<|ZDc 5 rfl Zl (X.move rfl)<|ZDc 6 rfl Zl (X.nilCk rfl)<|ZDc 7 rfl Zl (X.fldB (j := 0) Zu136 rfl rfl Zs81 rfl)<|ZD 8 rfl Zl (fun w' hk' => X.load1B Zi81 (hBf.keep (((hk1.trans hk2).trans hk3).trans hk')) rfl rfl)<|ZDc 9 rfl Zl (X.lenSl Zu81 rfl)<|ZDc 12 rfl Zl (X.move rfl)<|ZDc 13 rfl Zl (X.nilCk rfl)<|ZDc 14 rfl Zl (X.fldB (j := 0) Zu80 rfl rfl Zs3 rfl)<|ZD 15 rfl Zl (fun w' hk' => X.load1B Zi3 (h.B.keep (((hk1.trans hk2).trans hk3).trans hk')) rfl rfl)<|X.dE (i := 1) Zl rfl (X.dwN rfl) (X.callE (used_c _ (h.keep ((hk1.trans hk2).trans hk3)) hok) Tryz.call72 rfl rfl) (by rintro _ w4 ⟨rfl, hk4⟩ _; exact hk4.mono (fun _ _ h => h.elim)) ?_
      rintro _ w4 ⟨rfl, hk4⟩
      have hk4' := hk4.size
      refine X.dE (i := 3) Zl rfl (X.dwN rfl) (X.callE (sectors_c _ _ Zz) Zc73 rfl rfl) (by rintro _ w5 ⟨rfl, hk5⟩ _; exact hk5.mono (fun _ _ h => h.elim)) ?_
      rintro _ w5 ⟨rfl, hk5⟩
      have hk5' := hk5.size
      refine ZDc 4 rfl Zl (X.add rfl rfl (X.w_i64 Zz))<|X.dE (i := 10) Zl rfl (X.dwN rfl) (X.callE (sectors_c _ _ Zz) Zc73 rfl rfl) (by rintro _ w6 ⟨rfl, hk6⟩ _; exact hk6.mono (fun _ _ h => h.elim)) ?_
      rintro _ w6 ⟨rfl, hk6⟩
      have hk6' := hk6.size
      refine ZDc 11 rfl Zl (X.sub rfl rfl (X.w_i64 Zz))<|ZDc 16 rfl Zl (X.gtr rfl rfl)<|Zdend Zl<|X.condB rfl (fun h76 => ?_) (fun h76 => ?_)
      ·have h76 := of_decide_eq_true h76
       refine Zs<|Zr<|Zoa rfl rfl<|Ze<|X.ret1 (v := (.int .i64 _)) Zf33 Zr33 rfl ?_
       have e : s0.write nm (p : Int) y = (53, s0) := by
         simp only [DS.write, if_neg hD, hfa, hfat]
         rw [if_neg Zz, if_neg Zz, Int.toNat_natCast, hyl, hfl2, if_pos (by rw [secs, secs]; omega)]
       rw [e]
       exact ⟨rfl, col, (h.keep (((((hk1.trans hk2).trans hk3).trans hk4).trans hk5).trans hk6)).r, Stp.keep (((((hk1.trans hk2).trans hk3).trans hk4).trans hk5).trans hk6)⟩
      ·have h76 := of_decide_eq_false h76
       refine Zk<|Zs<|X.regionD (fun q => col q = 8 + 3 * k.toNat ∨ w.heap.size ≤ q) 13 Zl Zl (fun w7 hk7 hz7 => ?_)
       refine ZDc 0 rfl Zl (X.move rfl)<|ZDc 1 rfl Zl (X.move rfl)<|ZDc 2 rfl Zl (X.nilCk rfl)<|ZDc 3 rfl Zl (X.fldB (j := 0) Zu136 rfl rfl Zs81 rfl)<|ZD 4 rfl Zl (fun w' hk' => X.load1B Zi81 ((hBf.keep ((((((hk1.trans hk2).trans hk3).trans hk4).trans hk5).trans hk6).trans hk7)).ext hk' zq2) rfl rfl) ?_
       refine ZDc 5 rfl Zl (Zdmi rfl)<|ZDc 6 rfl Zl (X.move rfl)<|ZDc 7 rfl Zl (X.nilCk rfl)<|ZDc 8 rfl Zl (X.fldB (j := 0) Zu136 rfl rfl Zs81 rfl)<|ZD 9 rfl Zl (fun w' hk' => X.load1B Zi81 ((hBf.keep ((((((hk1.trans hk2).trans hk3).trans hk4).trans hk5).trans hk6).trans hk7)).ext hk' zq2) rfl rfl) ?_
       refine ZDc 10 rfl Zl (X.lenSl Zu81 rfl)<|ZDc 11 rfl Zl (X.sub (c := ((max n1 (p + m2) - n1 : Nat) : Int)) rfl rfl (by rw [X.w_i64 Zz]; omega)) ?_
       refine X.dE (i := 12) Zl rfl (X.dwN rfl) (X.appMkR (S := fun q => col q = 8 + 3 * k.toNat ∨ w.heap.size ≤ q) Zu81 Zu3 E8e rfl rfl Zz (Row.mono (T := fun q => col q = 8 + 3 * k.toNat ∨ w.heap.size ≤ q) (((((((hM1.keep hk1).keep hk2).keep hk3).keep hk4).keep hk5).keep hk6).keep hk7) (by intro q _ hS; exact .inl hS)) (by (try simp only [Int.toNat_natCast]); omega) (by intro q hq; right; omega)) (by rintro vA w8 ⟨hMa, hxa⟩ _; exact hxa.mono (fun k _ h => by (try simp only [] at *); omega)) ?_
       rintro vA w8 ⟨hMa, hxa⟩
       have hxa' := hxa.size
       refine X.dStep (i := 13) Zl rfl (X.dwN rfl) (X.nilCk rfl) (fun h => absurd h (by decide))<|X.dStep (i := 14) Zl rfl (X.dwN rfl) (X.fldB (j := 0) Zu136 rfl rfl Zs81 rfl) (fun h => absurd h (by decide)) ?_
       have q9 := hMa.slF KB_flat 0 (fun _ _ => Nat.zero_le _)
       obtain ⟨A9, c9, rfl, hc9, hs9⟩ := q9
       refine X.dE (i := 15) Zl rfl (X.dwN rfl) (X.storeE Zs81 ((hBf.keep ((((((hk1.trans hk2).trans hk3).trans hk4).trans hk5).trans hk6).trans hk7)).ext hxa zq2) rfl rfl rfl rfl) (fun _ _ _ h => absurd h (by decide)) ?_
       rintro _ w10 ⟨hB10, hx10, hz10⟩
       refine Zdend Zl<|Zs<|Zr<|Zom rfl rfl<|Zo (X.nilCk rfl) rfl<|Zo (X.fldB (j := 0) Zu136 rfl rfl Zs81 rfl) rfl<|Zo (X.load1B Zi81 hB10 rfl rfl) rfl<|Zomi rfl rfl<|Zomi rfl rfl<|Zomi rfl rfl<|Zo (X.cut3N (p := p) (m := m2) Zu81 Zs5 rfl rfl rfl rfl (by have := hc9; simp only [List.length_append, List.length_replicate, Int.toNat_natCast] at this; omega)) rfl ?_
       refine Zom rfl rfl ?_
       have hcap3 := ((hMa.ext hx10 (by intros; omega) zq2).rd KB_flat).1
       refine Zc (X.copyR (K := KB) (p := p) (m := m2) KB_flat (by decide) Zu81 Zs5 rfl rfl (hMa.ext hx10 (by intros; omega) zq2) (by rw [List.length_append, List.length_replicate, Int.toNat_natCast]; omega) (((((((((hy.keep hk1).keep hk2).keep hk3).keep hk4).keep hk5).keep hk6).keep hk7).ext hxa (by intro q g1 g2 g3; have hy1 := hy0 q g1 g2; first | omega | ((try simp only [] at g3); omega) | (have g3 : q = _ := g3; subst g3; omega) | (rcases g3 with g3 | g3 <;> first | omega | (subst g3; omega)))).ext hx10 (by intro q g1 g2 g3; have hy1 := hy0 q g1 g2; first | omega | ((try simp only [] at g3); omega) | (have g3 : q = _ := g3; subst g3; omega) | (rcases g3 with g3 | g3 <;> first | omega | (subst g3; omega))))) rfl ?_
       rintro _ w11 ⟨rfl, hMc, hxc, hzc⟩
       refine Ze<|Zs<|Zs<|Zr<|Zomi rfl rfl<|Zo (X.quo (c := ((p / 64 : Nat) : Int)) rfl rfl (by decide) (by rw [show ((p : Nat) : Int).tdiv 64 = ((p / 64 : Nat) : Int) from rfl]; exact X.w_i64 Zz)) rfl ?_
       refine Zoai rfl rfl<|Ze<|Zb ?_
       have gB := ((((h.B.keep ((((((hk1.trans hk2).trans hk3).trans hk4).trans hk5).trans hk6).trans hk7)).ext hxa zq2).ext hx10 zq2).ext hxc zq2)
       have gF := (hB10.ext hxc zq2)
       have gM1 := hMc
       have gM2 := ((((((((((hM2.keep hk1).keep hk2).keep hk3).keep hk4).keep hk5).keep hk6).keep hk7).ext hxa (by intros; omega) zq2).ext hx10 (by intros; omega) zq2).ext hxc (by intros; omega) zq2)
       have gL := ((((((((((h.L.keep hk1).keep hk2).keep hk3).keep hk4).keep hk5).keep hk6).keep hk7).ext hxa zq2).ext hx10 zq2).ext hxc zq2)
       have gx := (Ext.andThen (Ext.andThen (Ext.andThen (Ext.andThen (Ext.andThen (Ext.andThen (Ext.andThen (Ext.andThen (Ext.andThen (Ext.andThen (Ext.refl (fun q => col q = 1 ∨ col q = 5 ∨ col q = 7 + 3 * k.toNat ∨ col q = 8 + 3 * k.toNat ∨ w.heap.size ≤ q) _) hk1 zq20) hk2 zq20) hk3 zq20) hk4 zq20) hk5 zq20) hk6 zq20) hk7 zq20) hxa zq20) hx10 zq20) hxc zq20)
       have gxs := gx.size
       refine X.loopL (σ := Nat × LS) (fun s => [(0, ptrV b), (3, .slice Ay m2 cy), (10, .int .i64 k), (13, .int .i64 ((p + m2 : Nat) : Int)), (15, .int .i64 (s.1 : Int))]) (fun s w' => MPL w' bl s.2 ∧ p / 64 ≤ s.1 ∧ s.1 ≤ p / 64 + touched p m2 ∧ markL k s.1 (p / 64 + touched p m2 - s.1) s.2 = markL k (p / 64) (touched p m2) s0.ls ∧ Ext (fun q => q = bl) w11 w') (fun s => p / 64 + touched p m2 - s.1) (p / 64, s0.ls) ⟨rfl, rfl, rfl, rfl, rfl, trivial⟩ ⟨gL, Nat.le_refl _, by omega, by rw [show p / 64 + touched p m2 - p / 64 = touched p m2 by omega], Ext.refl _ _⟩ ?_
       rintro ⟨sn, l⟩ e w9 ⟨hL9, hs1, hs2, hmk, hx9⟩ hback
       dsimp only at hL9 hs1 hs2 hmk ⊢
       have hx9' := hx9.size
       have htc : m2 = 0 ∧ touched p m2 = 0 ∨ 0 < m2 ∧ touched p m2 = (p + m2 + 63) / 64 - p / 64 := by
         rw [touched]
         split
         ·exact .inl ⟨by assumption, rfl⟩
         ·exact .inr ⟨by omega, rfl⟩
       refine Zs<|Zs<|Zr<|Zomi rfl rfl<|Zomi rfl rfl<|Zc (X.callE (sectors_c _ _ Zz) Zc73 rfl rfl) rfl ?_
       rintro _ w12 ⟨rfl, hk12⟩
       have hk12' := hk12.size
       refine X.opP X.wN rfl rfl (X.lss rfl rfl) (fun h107 => ?_) (fun h107 => ?_)
       ·refine Zomt rfl rfl<|Zg (X.move rfl) rfl rfl rfl rfl<|Zg (X.lenSl Zu81 rfl) rfl rfl rfl rfl<|X.opP (X.wG rfl rfl rfl) rfl rfl (X.gtr rfl rfl) (fun h111 => ?_) (fun h111 => ?_)
        ·refine Zo (ZdTt rfl rfl) rfl<|Ze<|Zt rfl<|Zk<|Zs<|Zb<|Zr<|Zom rfl rfl<|Zo (X.nilCk rfl) rfl<|Zo (X.fldB (j := 6) Zu80 rfl rfl Tryz.sizeOf77 rfl) rfl<|Zo (X.load1B Tryz.isAgg77 ((gB.ext hx9 zq2).keep hk12) rfl rfl) rfl ?_
         refine Zomi rfl rfl<|Zomi rfl rfl<|Zo (X.buildB (vs := [(0, .int .i64 k), (1, .int .i64 (sn : Int))]) (cs := #[.int .i64 k, .int .i64 (sn : Int)]) rfl Zl) rfl<|Zc (X.updateV (enc := fun x : Int × Int => encPl x) (venc := fun v : Bool => .bool v) (a := (k, (sn : Int))) (v := true) Zu77 keyPl (hL9.keep hk12) rfl rfl rfl) rfl ?_
         rintro _ w13 ⟨hLm, hxm, hzm⟩
         refine Ze<|Zi<|Zr<|Zomi rfl rfl<|Zo (X.add (c := ((sn + 1 : Nat) : Int)) rfl rfl (by rw [X.w_i64 Zz]; omega)) rfl ?_
         refine Zoai rfl rfl<|Ze ?_
         refine hback (sn + 1, put (k, (sn : Int)) true l) _ _ ⟨rfl, rfl, rfl, rfl, rfl, trivial⟩ ⟨hLm, by omega, by (dsimp only); omega, ?_, (Ext.andThen (Ext.andThen (Ext.andThen (Ext.refl (fun q => q = bl) _) hx9 zq33) hk12 zq33) hxm zq33)⟩ (by (dsimp only); omega)
         rw [← hmk, show p / 64 + touched p m2 - sn = (p / 64 + touched p m2 - (sn + 1)) + 1 by omega]
         rfl
        ·refine Zo (ZdTf rfl rfl) rfl<|Ze<|Zf rfl<|Zx rfl<|Zs<|Zr<|Zom rfl rfl<|Zc (X.callE (did_c _ ((gB.ext hx9 zq2).keep hk12) Zz) Zc71 rfl rfl) rfl ?_
         rintro _ w14 ⟨rfl, hBd, hxd⟩
         have hxd' := hxd.size
         refine Zoai rfl rfl<|Ze<|X.ret1 (v := (.int .i64 _)) Zf33 Zr33 rfl ?_
         have hfull : markL k (p / 64) (touched p m2) s0.ls = l := by rw [← hmk, show p / 64 + touched p m2 - sn = 0 by omega]; rfl
         have hx : Ext (fun q => col q = 1 ∨ col q = 5 ∨ col q = 7 + 3 * k.toNat ∨ col q = 8 + 3 * k.toNat) w w14 := ((Ext.andThen (Ext.andThen (Ext.andThen gx hx9 zq20) hk12 zq20) hxd zq20)).mono (fun q hq t => by (try simp only [] at t); omega)
         have hxs := hx.size
         obtain ⟨col', hcol⟩ : ∃ col', col' = rec' col w.heap.size w14.heap.size (8 + 3 * k.toNat) := ⟨_, rfl⟩
         have hold : ∀ q, q < w.heap.size → col' q = col q := fun q hq => by rw [hcol]; exact rec_old hq
         have hnew : ∀ q, w.heap.size ≤ q → q < w14.heap.size → col' q = 8 + 3 * k.toNat := fun q h1 h2 => by rw [hcol]; exact rec_new h1 h2
         have hltc : ∀ q, col' q ≠ 0 → q < w14.heap.size := fun q hq => by rw [hcol] at hq; exact rec_lt hlt hxs hq
         have P := h.part (col' := col') (fun v => v = 1 ∨ v = 5 ∨ v = 7 + 3 * k.toNat ∨ v = 8 + 3 * k.toNat) hx hold (fun q hq ht => ht)
         have hst : Stp col w col' w14 := ⟨hold, hx.mono (fun q _ t => by (try simp only [] at t); omega)⟩
         have hrs : (f.1 ++ List.replicate ((max n1 (p + m2) - n1 : Nat) : Int).toNat 0).take p ++ y ++ (f.1 ++ List.replicate ((max n1 (p + m2) - n1 : Nat) : Int).toNat 0).drop (p + m2) = wrt f.1 p y := by
           simp only [wrt, Int.toNat_natCast, hyl, hfl2]
         have e : s0.write nm (p : Int) y = (0, ({ s0 with fs := s0.fs.set k.toNat (wrt f.1 p y, f.2), ls := l } : DS).did) := by
           simp only [DS.write, if_neg hD, hfa, hfat]
           rw [if_neg Zz, if_neg Zz, Int.toNat_natCast, hyl, hfl2, if_neg (by rw [secs, secs]; omega), hfull]
         rw [e]
         refine ⟨rfl, col', ⟨bf, bd, bx, bl, A, n, c, pt, ?_, P.F Zz, P.G Zz, P.X Zz, ((hL9.keep hk12).ext hxd zq2), P.M Zz, P.cb, P.cf, P.cd, P.cx, P.cl, hltc, ?_, ?_⟩, hst⟩
         ·have := hBd
          simp only [DS.did, List.length_set]
          exact this
         ·simp only [DS.did, List.length_set]; exact P.pl
         ·intro j q g h1 h2
          by_cases hj : j = k.toNat
          ·subst hj
           rw [hpf] at h1
           have h2' : (s0.fs.set k.toNat (wrt f.1 p y, f.2))[k.toNat]? = some g := h2
           rw [List.getElem?_set_self Zz] at h2'
           cases h1; cases h2'
           exact ⟨(hold _ hpl2).trans hpc, _, _, _, _, _, _, (((gF.ext hx9 zq2).keep hk12).ext hxd zq2), (by rw [← hrs]; exact ((((gM1.ext hx9 (by intros; omega) zq2).keep hk12).ext hxd (by intros; omega) zq2)).mono (fun q hq hS => hS.elim (fun hS => by rw [hold q (hlt q Zz)]; exact hS) (fun hS => hnew q hS hq))), ((((gM2.ext hx9 (by intros; omega) zq2).keep hk12).ext hxd (by intros; omega) zq2).mono (fun q hq hS => by rw [hold q (hlt q (by (try simp only [] at hS); omega))]; exact hS))⟩
          ·have h2' : (s0.fs.set k.toNat (wrt f.1 p y, f.2))[j]? = some g := h2
           rw [List.getElem?_set_ne (fun e => hj e.symm)] at h2'
           exact P.fl j q g h1 h2' (fun v a1 a2 => by omega)
       ·refine Zomf rfl rfl<|Zp rfl rfl rfl<|Zp rfl rfl rfl<|Zp rfl rfl rfl<|Zo (ZdFf rfl rfl) rfl<|Ze<|Zf rfl<|Zx rfl<|Zs<|Zr<|Zom rfl rfl<|Zc (X.callE (did_c _ ((gB.ext hx9 zq2).keep hk12) Zz) Zc71 rfl rfl) rfl ?_
        rintro _ w15 ⟨rfl, hBd, hxd⟩
        have hxd' := hxd.size
        refine Zoai rfl rfl<|Ze<|X.ret1 (v := (.int .i64 _)) Zf33 Zr33 rfl ?_
        have hfull : markL k (p / 64) (touched p m2) s0.ls = l := by rw [← hmk, show p / 64 + touched p m2 - sn = 0 by omega]; rfl
        have hx : Ext (fun q => col q = 1 ∨ col q = 5 ∨ col q = 7 + 3 * k.toNat ∨ col q = 8 + 3 * k.toNat) w w15 := ((Ext.andThen (Ext.andThen (Ext.andThen gx hx9 zq20) hk12 zq20) hxd zq20)).mono (fun q hq t => by (try simp only [] at t); omega)
        have hxs := hx.size
        obtain ⟨col', hcol⟩ : ∃ col', col' = rec' col w.heap.size w15.heap.size (8 + 3 * k.toNat) := ⟨_, rfl⟩
        have hold : ∀ q, q < w.heap.size → col' q = col q := fun q hq => by rw [hcol]; exact rec_old hq
        have hnew : ∀ q, w.heap.size ≤ q → q < w15.heap.size → col' q = 8 + 3 * k.toNat := fun q h1 h2 => by rw [hcol]; exact rec_new h1 h2
        have hltc : ∀ q, col' q ≠ 0 → q < w15.heap.size := fun q hq => by rw [hcol] at hq; exact rec_lt hlt hxs hq
        have P := h.part (col' := col') (fun v => v = 1 ∨ v = 5 ∨ v = 7 + 3 * k.toNat ∨ v = 8 + 3 * k.toNat) hx hold (fun q hq ht => ht)
        have hst : Stp col w col' w15 := ⟨hold, hx.mono (fun q _ t => by (try simp only [] at t); omega)⟩
        have hrs : (f.1 ++ List.replicate ((max n1 (p + m2) - n1 : Nat) : Int).toNat 0).take p ++ y ++ (f.1 ++ List.replicate ((max n1 (p + m2) - n1 : Nat) : Int).toNat 0).drop (p + m2) = wrt f.1 p y := by
          simp only [wrt, Int.toNat_natCast, hyl, hfl2]
        have e : s0.write nm (p : Int) y = (0, ({ s0 with fs := s0.fs.set k.toNat (wrt f.1 p y, f.2), ls := l } : DS).did) := by
          simp only [DS.write, if_neg hD, hfa, hfat]
          rw [if_neg Zz, if_neg Zz, Int.toNat_natCast, hyl, hfl2, if_neg (by rw [secs, secs]; omega), hfull]
        rw [e]
        refine ⟨rfl, col', ⟨bf, bd, bx, bl, A, n, c, pt, ?_, P.F Zz, P.G Zz, P.X Zz, ((hL9.keep hk12).ext hxd zq2), P.M Zz, P.cb, P.cf, P.cd, P.cx, P.cl, hltc, ?_, ?_⟩, hst⟩
        ·have := hBd
         simp only [DS.did, List.length_set]
         exact this
        ·simp only [DS.did, List.length_set]; exact P.pl
        ·intro j q g h1 h2
         by_cases hj : j = k.toNat
         ·subst hj
          rw [hpf] at h1
          have h2' : (s0.fs.set k.toNat (wrt f.1 p y, f.2))[k.toNat]? = some g := h2
          rw [List.getElem?_set_self Zz] at h2'
          cases h1; cases h2'
          exact ⟨(hold _ hpl2).trans hpc, _, _, _, _, _, _, (((gF.ext hx9 zq2).keep hk12).ext hxd zq2), (by rw [← hrs]; exact ((((gM1.ext hx9 (by intros; omega) zq2).keep hk12).ext hxd (by intros; omega) zq2)).mono (fun q hq hS => hS.elim (fun hS => by rw [hold q (hlt q Zz)]; exact hS) (fun hS => hnew q hS hq))), ((((gM2.ext hx9 (by intros; omega) zq2).keep hk12).ext hxd (by intros; omega) zq2).mono (fun q hq hS => by rw [hold q (hlt q (by (try simp only [] at hS); omega))]; exact hS))⟩
         ·have h2' : (s0.fs.set k.toNat (wrt f.1 p y, f.2))[j]? = some g := h2
          rw [List.getElem?_set_ne (fun e => hj e.symm)] at h2'
          exact P.fl j q g h1 h2' (fun v a1 a2 => by omega)
section
variable {col : Nat → Nat} {w : World} {b : Nat} {s : DS}
theorem writeR_c {lo hi m2 cy : Nat} {Ay : Option Addr} {y : List UInt8} (h : DkR col w b s) (hok : s.Ok) (nm : ByteArray) (a : Int) (ha : -9223372036854775808 ≤ a ∧ a ≤ 9223372036854775807) (hy : Sl KB lo hi w Ay m2 y) (hy0 : ∀ q, lo ≤ q → q < hi → col q = 0 ∧ q < w.heap.size) (hym : m2 ≤ 1000000000) : Ret Tryz.prog 33 #[ptrV b, .string nm, .int .i64 a, .slice Ay m2 cy] w fun r w' => r = .int .i64 (s.write nm a y).1 ∧ ∃ col', DkR col' w' b (s.write nm a y).2 ∧ Stp col w col' w' := let ⟨_, _, _, _, _, _, _, _, h⟩ := h; Write_c nm a w h hok ha hy hy0 hym
end
end Go.Proofs.YtjjhddjllpihaaaGreatDoor
