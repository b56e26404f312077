/- Texts that the proof of RunFiles stands on, part 15. -/
import Derived.Shelf.Sort.Plain
import Derived.Shelf.Slices.In.SortNone
import Derived.Shelf.Slices.CompactI
import Derived.Sort.OwnSorted
import Derived.Sort.OwnSortedInts
import Derived.Test.YtbljooblpfdbiaaGreatDoorProg
import Derived.Test.YtbljooblpfdbiaaGreatDoorBunRunFiles14
set_option maxHeartbeats 4000000
set_option maxRecDepth 100000
open Go.Proofs.Tryz renaming call73 → Zc73, call75 → Zc75, call77 → Zc77, func119 → Zf119, func122 → Zf122, func153 → Zf153, func32 → Zf32, func73 → Zf73, func74 → Zf74, func75 → Zf75, func76 → Zf76, func77 → Zf77, func78 → Zf78, func79 → Zf79, isAgg130 → Zi130, isAgg131 → Zi131, isAgg145 → Zi145, isAgg192 → Zi192, isAgg3 → Zi3, isAgg4 → Zi4, isAgg43 → Zi43, isAgg74 → Zi74, isAgg9 → Zi9, results119 → Zr119, results122 → Zr122, results153 → Zr153, results32 → Zr32, results76 → Zr76, results78 → Zr78, results79 → Zr79, sizeOf130 → Zs130, sizeOf131 → Zs131, sizeOf132 → Zs132, sizeOf143 → Zs143, sizeOf145 → Zs145, sizeOf150 → Zs150, sizeOf192 → Zs192, sizeOf3 → Zs3, sizeOf4 → Zs4, sizeOf43 → Zs43, sizeOf5 → Zs5, sizeOf74 → Zs74, sizeOf9 → Zs9, underlying0 → Zu0, underlying130 → Zu130, underlying131 → Zu131, underlying132 → Zu132, underlying134 → Zu134, underlying140 → Zu140, underlying147 → Zu147, underlying150 → Zu150, underlying192 → Zu192, underlying3 → Zu3, underlying4 → Zu4, underlying43 → Zu43, underlying74 → Zu74, underlying9 → Zu9, underlying93 → Zu93, underlying96 → Zu96, underlying98 → Zu98, zeroValue0 → Zv0, zeroValue150 → Zv150, zeroValue192 → Zv192, zeroValue3 → Zv3, zeroValue4 → Zv4
set_option linter.unusedSimpArgs false
set_option linter.unusedVariables false
namespace Go.Proofs.YtbljooblpfdbiaaGreatDoor.X
open Go Go.Proofs Go.Sort Go.Shelf Go.RowKit
/-! ### what slices.Compact keeps -/
section
variable {d : Array Int} {zs : List Int}
theorem cut_len (d : Array Int) (m : Nat) : (Lib.compactUpTo d m).length ≤ m := by
  rw [Lib.compactUpTo, List.length_map]
  exact Nat.le_trans (List.length_filter_le _ _) (by simp)
theorem get!_mem {d : Array Int} {j : Nat} (h : j < d.size) : d[j]! ∈ d.toList := by
  rw [getElem!_pos d j h]; simp
theorem cut_sub {m : Nat} (hm : m ≤ d.size) {x : Int} (h : x ∈ Lib.compactUpTo d m) : ∃ j, j < m ∧ x = d[j]! := by
  obtain ⟨j, hj, rfl⟩ := List.mem_map.1 h
  exact ⟨j, List.mem_range.1 (List.mem_filter.1 hj).1, rfl⟩
theorem cut_mem (d : Array Int) : ∀ (m j : Nat), j < m → d[j]! ∈ Lib.compactUpTo d m
  | 0, j, h => by omega
  | m + 1, j, h => by
    rw [Lib.compactUpTo_succ]
    rcases Nat.lt_or_ge j m with hj | hj
    · exact List.mem_append_left _ (cut_mem d m j hj)
    · have : j = m := by omega
      subst this
      by_cases hk : Lib.keeps d j = true
      · rw [if_pos hk]; exact List.mem_append_right _ (by simp)
      · have h1 : ¬ (j = 0 ∨ d[j]! ≠ d[j - 1]!) := fun h => hk (by simp only [Lib.keeps, decide_eq_true_eq]; exact h)
        have h2 : j ≠ 0 := fun e => h1 (.inl e)
        have h3 : d[j]! = d[j - 1]! := Classical.byContradiction fun e => h1 (.inr e)
        rw [h3]
        exact List.mem_append_left _ (cut_mem d j (j - 1) Zz)
theorem cut_inc (hs : ∀ i j, i ≤ j → j < d.size → d[i]! ≤ d[j]!) : ∀ m, m ≤ d.size → (Lib.compactUpTo d m).Pairwise (· < ·)
  | 0, _ => by simp [Lib.compactUpTo]
  | m + 1, hm => by
    rw [Lib.compactUpTo_succ]
    have ih := cut_inc hs m Zz
    by_cases hk : Lib.keeps d m = true
    · rw [if_pos hk]
      refine List.pairwise_append.2 ⟨ih, by simp, fun a ha b hb => ?_⟩
      simp only [List.mem_singleton] at hb
      subst hb
      obtain ⟨j, hj, rfl⟩ := cut_sub Zz ha
      simp only [Lib.keeps, decide_eq_true_eq] at hk
      rcases hk with hk | hk
      · omega
      · have h1 := hs j (m - 1) Zz Zz
        have h2 := hs (m - 1) m Zz Zz
        omega
    · rw [if_neg hk, List.append_nil]; exact ih
theorem compact_length_le (zs : List Int) : (Lib.compact zs).length ≤ zs.length := cut_len _ _
theorem compact_sub (zs : List Int) : ∀ x, x ∈ Lib.compact zs → x ∈ zs := fun x h => by
  obtain ⟨j, hj, rfl⟩ := cut_sub (d := zs.toArray) (by simp) h
  simpa using get!_mem (d := zs.toArray) (j := j) (by simpa using hj)
theorem compact_mem {x : Int} (h : x ∈ zs) : x ∈ Lib.compact zs := by
  obtain ⟨j, hj⟩ := List.getElem?_of_mem h
  have hl := (List.getElem?_eq_some_iff.1 hj).1
  have := cut_mem zs.toArray zs.length j hl
  rw [getElem!_pos zs.toArray j (by simpa using hl)] at this
  have e : zs.toArray[j]'(by simpa using hl) = x := by
    have := (List.getElem?_eq_some_iff.1 hj).2
    simpa using this
  rw [e] at this
  exact this
theorem compact_inc (h : zs.Pairwise (· ≤ ·)) : (Lib.compact zs).Pairwise (· < ·) := by
  refine cut_inc (fun i j hij hj => ?_) zs.length (by simp)
  have hj' : j < zs.length := by simpa using hj
  rw [getElem!_pos zs.toArray i (by simp; omega), getElem!_pos zs.toArray j hj]
  simp only [List.getElem_toArray]
  rcases Nat.lt_or_ge i j with h1 | h1
  · exact List.pairwise_iff_getElem.1 h i j Zz hj' h1
  · have : i = j := by omega
    subst this; exact Int.le_refl _
def nrs (l : List Int) : List Int := Lib.compact (l.mergeSort fun x y => decide (x ≤ y))
theorem nrs_mem {l : List Int} {x : Int} : x ∈ nrs l ↔ x ∈ l := ⟨fun h => List.mem_mergeSort.1 (compact_sub _ x h), fun h => compact_mem (List.mem_mergeSort.2 h)⟩
theorem nrs_inc (l : List Int) : (nrs l).Pairwise (· < ·) := compact_inc (by
  have := List.pairwise_mergeSort (le := fun x y : Int => decide (x ≤ y)) (by intro a b c; simp; omega) (by intro a b; simp; omega) l
  exact this.imp (by simp))
end
section
variable {P : Program} {ρ : Ren} {w w' : World} {e : TypeId} {S : Nat → Prop} {A : Option Addr} {n c : Nat}
theorem reps_one {α : Type} {enc : α → Value} {ok : α → Prop} {hl : ∀ x, ([enc x] : List Value).length = 1} {h1 : ∀ x u, u ∈ ([enc x] : List Value) → u.oneCell' = true} {lo hi : Nat} : ∀ {xs : List α} {cs : List Value}, Reps (Kd.plain 1 (fun x => [enc x]) ok hl h1) lo hi w xs cs ↔ cs = xs.map enc ∧ ∀ x, x ∈ xs → ok x
  | [], cs => ⟨fun h => ⟨h, fun _ h => by cases h⟩, fun h => h.1⟩
  | x :: xs, cs => by
    constructor
    · rintro ⟨a, b, rfl, ⟨rfl, h2⟩, h3⟩
      obtain ⟨rfl, h4⟩ := reps_one.1 h3
      exact ⟨rfl, fun y hy => (List.mem_cons.1 hy).elim (fun e => e ▸ h2) (h4 y)⟩
    · rintro ⟨rfl, h2⟩
      exact ⟨[enc x], xs.map enc, rfl, ⟨rfl, h2 x List.mem_cons_self⟩, reps_one.2 ⟨rfl, fun y hy => h2 y (List.mem_cons_of_mem _ hy)⟩⟩
theorem KI_reps {lo hi : Nat} {xs : List Int} {cs : List Value} : Reps KI lo hi w xs cs ↔ cs = xs.map (Value.int .i64) ∧ ∀ x, x ∈ xs → -9223372036854775808 ≤ x ∧ x ≤ 9223372036854775807 := reps_one
theorem ext_grown {g : Nat} (h : w.grownBy w' (some g)) (hS : S g) : Ext S w w' := (Ext.of_grown h).mono fun k _ hk => by cases hk; exact hS
def sortB (xs : List ByteArray) : List ByteArray := ((xs.map fun s => s.data.toList).mergeSort fun x y => decide (x ≤ y)).map fun l => ⟨l.toArray⟩
theorem sortI {xs : List Int} (Ly : Lays.n189 P ρ) (h : Mine KI e S 0 0 w (.slice A n c) xs) (hn : n < 4611686018427387904) : RetN P (ρ.f 189) #[.slice A n c] w fun r w' => r = .tuple #[] ∧ Mine KI e S 0 0 w' (.slice A n c) (xs.mergeSort fun x y => decide (x ≤ y)) ∧ Ext S w w' := by
  have hlen := h.len
  obtain ⟨b, ⟨⟨cs, hr, ho⟩, hb⟩, hS⟩ := id h
  obtain ⟨rfl, hok⟩ := KI_reps.1 hr
  rcases ho.2 with ⟨h0, h1⟩ | ⟨g, cap, cur, he, hg, hh, hnc, hcm, hcs, htk⟩
  · injection h0 with e1 e2 e3
    subst e1 e2 e3
    have hx : xs = [] := List.eq_nil_of_length_eq_zero h1
    subst hx
    exact RetN.of (Any.slices_Sort_int_none Ly none 0 w) fun e w' ⟨h1, h2⟩ => ⟨_, h1, rfl, by subst h2; simpa [sortB] using h, by subst h2; exact Ext.refl _ _⟩
  · injection he with e1 e2 e3
    subst e1 e3
    have hSg : S g := hS g (by rw [← hb]; rfl)
    have e2' : n = xs.length := e2
    subst e2'
    have hsz1 : KI.sz = 1 := rfl
    rw [hsz1, Nat.mul_one] at htk
    refine RetN.of (Any.slices_Sort_int Ly g 0 c xs w (holds_of_blockI hh htk) (Array.getElem?_eq_some_iff.1 hh).1 hn) ?_
    rintro e' w' ⟨h1, k, os, rfl⟩
    refine ⟨_, h1, rfl, ⟨b, ⟨⟨_, KI_reps.2 ⟨rfl, fun x hx => hok x (List.mem_mergeSort.1 hx)⟩, ?_⟩, hb⟩, hS⟩, ext_grown (grownBy_sortedI _) hSg⟩
    rw [List.length_mergeSort]
    exact ownsRow_sortedI (by simp) hg hh hnc hcm hcs
theorem compactI {xs : List Int} (Ly : Lays2.n20 P ρ) (h : Mine KI e S 0 0 w (.slice A n c) xs) : RetN P (ρ.f 20) #[.slice A n c] w fun r w' => r = .slice A (Lib.compact xs).length c ∧ (Lib.compact xs).length ≤ c ∧ Mine KI e S 0 0 w' (.slice A (Lib.compact xs).length c) (Lib.compact xs) ∧ Ext S w w' := by
  have hlen := h.len
  have hle := compact_length_le xs
  have hsub := compact_sub xs
  obtain ⟨b, ⟨⟨cs, hr, ho⟩, hb⟩, hS⟩ := id h
  obtain ⟨rfl, hok⟩ := KI_reps.1 hr
  rcases ho.2 with ⟨h0, h1⟩ | ⟨g, cap, cur, he, hg, hh, hnc, hcm, hcs, htk⟩
  · injection h0 with e1 e2 e3
    subst e1 e2 e3
    have hx : xs = [] := List.eq_nil_of_length_eq_zero h1
    subst hx
    exact RetN.of (Any.slices_Compact_int_empty Ly none 0 w) fun e w' ⟨h1, h2⟩ => ⟨_, h1, rfl, Nat.le_refl _, by subst h2; exact h, by subst h2; exact Ext.refl _ _⟩
  · injection he with e1 e2 e3
    subst e1 e3
    have hSg : S g := hS g (by rw [← hb]; rfl)
    have e2' : n = xs.length := e2
    subst e2'
    have hsz1 : KI.sz = 1 := rfl
    rw [hsz1, Nat.mul_one] at htk
    refine RetN.of (Any.slices_Compact_int Ly g 0 c xs w (holds_of_blockI hh htk) (by simp only [maxLen] at hcm; omega) hnc) ?_
    rintro e' w' ⟨h1, k, rfl⟩
    have hex := grownBy_sortedI (w := w) (g := g) (n := k) (os := #[]) (Lib.compact xs ++ List.replicate (xs.length - (Lib.compact xs).length) 0).toArray
    rw [grow_empty] at hex
    refine ⟨_, h1, rfl, Nat.le_trans hle hnc, ?_, ext_grown hex hSg⟩
    have hM : Mine KI e S 0 0 (putRow (Value.int .i64) (Sort.ahead w k) g 0 (Lib.compact xs ++ List.replicate (xs.length - (Lib.compact xs).length) 0).toArray) (.slice (some ⟨g, 0, none⟩) xs.length c) (Lib.compact xs ++ List.replicate (xs.length - (Lib.compact xs).length) 0) := by
      have hl2 : (Lib.compact xs ++ List.replicate (xs.length - (Lib.compact xs).length) 0).length = xs.length := by rw [List.length_append, List.length_replicate]; omega
      refine ⟨b, ⟨⟨_, KI_reps.2 ⟨rfl, fun x hx => ?_⟩, ?_⟩, hb⟩, hS⟩
      · rcases List.mem_append.1 hx with hx | hx
        · exact hok x (hsub x hx)
        · rw [(List.mem_replicate.1 hx).2]; omega
      · have := ownsRow_sortedI (w := w) (base := 0) (g := g) (cap := c) (n := k) (e := e) (os := #[]) (cur := cur) (ss := xs) (ts := Lib.compact xs ++ List.replicate (xs.length - (Lib.compact xs).length) 0) hl2 hg hh hnc hcm hcs
        rw [grow_empty] at this
        rw [hl2]
        exact this
    have := hM.take (Lib.compact xs).length hle
    rw [List.take_left] at this
    exact this
end
end Go.Proofs.YtbljooblpfdbiaaGreatDoor.X
namespace Go.Proofs.YtbljooblpfdbiaaGreatDoor
open Go
open Go.Shelf
def lay189_ren : Go.Shelf.Ren := ⟨fun | 189 => 123 | 125 => 155 | 257 => 154 | 128 => 184 | 129 => 185 | 294 => 175 | 295 => 176 | 296 => 177 | 297 => 178 | 298 => 179 | 299 => 180 | 216 => 181 | 300 => 182 | 301 => 183 | 328 => 187 | 329 => 188 | 330 => 189 | 331 => 190 | 332 => 191 | 215 => 192 | 343 => 193 | n => n, fun | 28 => 74 | 3 => 3 | 46 => 77 | 0 => 0 | 51 => 68 | 53 => 119 | 4 => 4 | 183 => 250 | 182 => 249 | 131 => 137 | 5 => 5 | 9 => 9 | 218 => 258 | 222 => 261 | 228 => 263 | 229 => 60 | n => n, fun | n => n⟩
theorem lay189 : Go.Proofs.Lays.n189 Tryz.prog lay189_ren := {
  mixed := by kernel_rfl
  f125 := Tryz.func155.trans (congrArg some Zl)
  f128 := Tryz.func184.trans (congrArg some Zl)
  f129 := Tryz.func185.trans (congrArg some Zl)
  f189 := Tryz.func123.trans (congrArg some Zl)
  f215 := Tryz.func192.trans (congrArg some Zl)
  f216 := Tryz.func181.trans (congrArg some Zl)
  f257 := Tryz.func154.trans (congrArg some Zl)
  f294 := Tryz.func175.trans (congrArg some Zl)
  f295 := Tryz.func176.trans (congrArg some Zl)
  f296 := Tryz.func177.trans (congrArg some Zl)
  f297 := Tryz.func178.trans (congrArg some Zl)
  f298 := Tryz.func179.trans (congrArg some Zl)
  f299 := Tryz.func180.trans (congrArg some Zl)
  f300 := Tryz.func182.trans (congrArg some Zl)
  f301 := Tryz.func183.trans (congrArg some Zl)
  f328 := Tryz.func187.trans (congrArg some Zl)
  f329 := Tryz.func188.trans (congrArg some Zl)
  f330 := Tryz.func189.trans (congrArg some Zl)
  f331 := Tryz.func190.trans (congrArg some Zl)
  f332 := Tryz.func191.trans (congrArg some Zl)
  f343 := Tryz.func193.trans (congrArg some Zl)
  t0 := Zu0
  a0 := Tryz.isAgg0
  z0 := Tryz.sizeOf0
  v0 := Zv0
  t3 := Zu3
  a3 := Zi3
  z3 := Zs3
  v3 := Zv3
  t4 := Zu4
  a4 := Zi4
  z4 := Zs4
  v4 := Zv4
  t5 := Tryz.underlying5
  a5 := Tryz.isAgg5
  z5 := Zs5
  v5 := Tryz.zeroValue5
  t9 := Zu9
  a9 := Zi9
  z9 := Zs9
  v9 := Tryz.zeroValue9
  t28 := Zu74
  a28 := Zi74
  z28 := Zs74
  v28 := Tryz.zeroValue74
  t46 := Tryz.underlying77
  a46 := Tryz.isAgg77
  z46 := Tryz.sizeOf77
  v46 := Tryz.zeroValue77
  t51 := Tryz.underlying68
  a51 := Tryz.isAgg68
  z51 := Tryz.sizeOf68
  v51 := Tryz.zeroValue68
  t53 := Tryz.underlying119
  a53 := Tryz.isAgg119
  z53 := Tryz.sizeOf119
  v53 := Tryz.zeroValue119
  t131 := Tryz.underlying137
  a131 := Tryz.isAgg137
  z131 := Tryz.sizeOf137
  v131 := Tryz.zeroValue137
  t182 := Tryz.underlying249
  a182 := Tryz.isAgg249
  z182 := Tryz.sizeOf249
  v182 := Tryz.zeroValue249
  t183 := Tryz.underlying250
  a183 := Tryz.isAgg250
  z183 := Tryz.sizeOf250
  v183 := Tryz.zeroValue250
  t218 := Tryz.underlying258
  a218 := Tryz.isAgg258
  z218 := Tryz.sizeOf258
  v218 := Tryz.zeroValue258
  t222 := Tryz.underlying261
  a222 := Tryz.isAgg261
  z222 := Tryz.sizeOf261
  v222 := Tryz.zeroValue261
  t228 := Tryz.underlying263
  a228 := Tryz.isAgg263
  z228 := Tryz.sizeOf263
  v228 := Tryz.zeroValue263
  t229 := Tryz.underlying60
  a229 := Tryz.isAgg60
  z229 := Tryz.sizeOf60
  v229 := Tryz.zeroValue60 }
def lay2_20_ren : Go.Shelf.Ren := ⟨fun | 20 => 124 | n => n, fun | 22 => 74 | 3 => 3 | 4 => 4 | 0 => 0 | n => n, fun | n => n⟩
theorem lay2_20 : Go.Proofs.Lays2.n20 Tryz.prog lay2_20_ren := {
  mixed := by kernel_rfl
  f20 := Tryz.func124.trans (congrArg some Zl)
  t0 := Zu0
  a0 := Tryz.isAgg0
  z0 := Tryz.sizeOf0
  v0 := Zv0
  t3 := Zu3
  a3 := Zi3
  z3 := Zs3
  v3 := Zv3
  t4 := Zu4
  a4 := Zi4
  z4 := Zs4
  v4 := Zv4
  t22 := Zu74
  a22 := Zi74
  z22 := Zs74
  v22 := Tryz.zeroValue74
  i3 := by kernel_rfl }
end Go.Proofs.YtbljooblpfdbiaaGreatDoor
namespace Go.Proofs.YtbljooblpfdbiaaGreatDoor
open Go Go.Proofs.YtbljooblpfdbiaaGreatDoor.X
theorem EId : ElemInfo Tryz.prog 3 1 8 := ElemInfo.of (z := .int .i64 0) Zl rfl rfl rfl
theorem repsI1 {w : World} {x : Int} (h : -9223372036854775808 ≤ x ∧ x ≤ 9223372036854775807) : RepsV KI w [x] [.int .i64 x] := ⟨⟨_, rfl, rfl, h⟩, trivial⟩
section
variable {w : World} {e : TypeId} {S : Nat → Prop} {A : Option Addr} {n c : Nat}
theorem sortInt_c {xs : List Int} (h : Mine KI e S 0 0 w (.slice A n c) xs) (hn : n < 4611686018427387904) : RetN Tryz.prog 123 #[.slice A n c] w fun r w' => r = .tuple #[] ∧ Mine KI e S 0 0 w' (.slice A n c) (xs.mergeSort fun x y => decide (x ≤ y)) ∧ Ext S w w' := sortI lay189 h hn
theorem compInt_c {xs : List Int} (h : Mine KI e S 0 0 w (.slice A n c) xs) : RetN Tryz.prog 124 #[.slice A n c] w fun r w' => r = .slice A (Lib.compact xs).length c ∧ (Lib.compact xs).length ≤ c ∧ Mine KI e S 0 0 w' (.slice A (Lib.compact xs).length c) (Lib.compact xs) ∧ Ext S w w' := compactI lay2_20 h
end
theorem inc_eq : ∀ {a b : List Int}, a.Pairwise (· < ·) → b.Pairwise (· < ·) → (∀ x, x ∈ a ↔ x ∈ b) → a = b
  | [], [], _, _, _ => rfl
  | [], y :: b, _, _, h => by have := (h y).2 List.mem_cons_self; cases this
  | x :: a, [], _, _, h => by have := (h x).1 List.mem_cons_self; cases this
  | x :: a, y :: b, ha, hb, h => by
    obtain ⟨a1, a2⟩ := List.pairwise_cons.1 ha
    obtain ⟨b1, b2⟩ := List.pairwise_cons.1 hb
    have e : x = y := by
      rcases List.mem_cons.1 ((h x).1 List.mem_cons_self) with e | e
      · exact e
      · rcases List.mem_cons.1 ((h y).2 List.mem_cons_self) with e2 | e2
        · exact e2.symm
        · have := b1 x e; have := a1 y e2; omega
    subst e
    congr 1
    refine inc_eq a2 b2 fun z => ⟨fun hz => ?_, fun hz => ?_⟩
    · rcases List.mem_cons.1 ((h z).1 (List.mem_cons_of_mem _ hz)) with e | e
      · have := a1 z hz; omega
      · exact e
    · rcases List.mem_cons.1 ((h z).2 (List.mem_cons_of_mem _ hz)) with e | e
      · have := b1 z hz; omega
      · exact e
theorem nrs_eq {a b : List Int} (h : ∀ x, x ∈ a ↔ x ∈ b) : nrs a = nrs b := inc_eq (nrs_inc a) (nrs_inc b) fun x => by rw [nrs_mem, nrs_mem, h]
def newF (l : List CHG) : List Int := (l.filter fun c => decide (c.1 = ⟨#[]⟩)).map fun c => c.2.2
theorem newF_snoc {l : List CHG} {i : Nat} {x : CHG} (h : l[i]? = some x) : newF (l.take (i + 1)) = newF (l.take i) ++ if x.1 = ⟨#[]⟩ then [x.2.2] else [] := by
  rw [take_at h, newF, newF, List.filter_append, List.map_append]
  congr 1
  by_cases e : x.1 = ⟨#[]⟩ <;> simp [e]
def DS.near (s : DS) : List Int := nrs (s.fx.map (·.2) ++ newF s.chs)
def vals (d : DIR) (ds : List ByteArray) : List Int := ds.reverse.map fun k => (asc k d).getD 0
theorem vals_cons {d : DIR} {ds : List ByteArray} {k : ByteArray} {x : Int} (h : asc k d = some x) : vals d (k :: ds) = vals d ds ++ [x] := by simp only [vals, List.reverse_cons, List.map_append, List.map_cons, List.map_nil, h, Option.getD_some]
theorem vals_mem {d : DIR} {ds : List ByteArray} (hn : (d.map (·.1)).Nodup) (h1 : ∀ k, k ∈ ds → k ∈ d.map (·.1)) (h2 : ∀ k, k ∈ d.map (·.1) → k ∈ ds) (x : Int) : x ∈ vals d ds ↔ x ∈ d.map (·.2) := by
  constructor
  · intro h
    obtain ⟨k, hk, rfl⟩ := List.mem_map.1 h
    obtain ⟨p, hp, rfl⟩ := List.mem_map.1 (h1 k (List.mem_reverse.1 hk))
    rw [asc_mem hn hp]
    exact List.mem_map.2 ⟨p, hp, rfl⟩
  · intro h
    obtain ⟨p, hp, rfl⟩ := List.mem_map.1 h
    exact List.mem_map.2 ⟨p.1, List.mem_reverse.2 (h2 _ (List.mem_map.2 ⟨p, hp, rfl⟩)), by rw [asc_mem hn hp]; rfl⟩
theorem near_c {col : Nat → Nat} {b bf bd bx bl : Nat} {A : Option Addr} {n c : Nat} {pt : List Nat} {s0 : DS} (w : World) (h : DkB col w b bf bd bx bl A n c pt s0) (hok : s0.Ok) (hsz : s0.size ≤ 200000) : Ret Tryz.prog 81 #[ptrV b] w fun r w' => ∃ A' c', r = .slice A' s0.near.length c' ∧ s0.near.length ≤ c' ∧ Mine KI 3 (fun q => w.heap.size ≤ q ∧ q < w'.heap.size) 0 0 w' (.slice A' s0.near.length c') s0.near ∧ Keep w w' := by
 have hbl := h.B.lt
 have hfl := h.F.lt
 have hdl := h.G.lt
 have hxl := h.X.lt
 have hll := h.L.lt
 have hcb := h.cb
 have hcf := h.cf
 have hcd := h.cd
 have hcx := h.cx
 have hcl := h.cl
 obtain ⟨z1, z2, z3, z4, z5, z6, z7, z8, z9, z10⟩ := h.ne
 have hlt := h.lt
 have hok1 := hok.lf
 have hok2 := hok.few
 rw [DS.size] at hsz
 have hfx := hok.fewx
 have hchl := h.M.len
 refine X.enter Tryz.func81 rfl Tryz.ntmps81 rfl<|Zs<|Zr<|Zoa rfl rfl<|Ze<|Zs<|Zr<|Zoa rfl rfl<|Ze<|Zs<|Zs<|Zr<|Zom rfl rfl<|Zo (X.nilCk rfl) rfl<|Zo (X.fldB (j := 4) Zu98 rfl rfl Tryz.sizeOf94 rfl) rfl<|Zo (X.load1B Tryz.isAgg94 h.B rfl rfl) rfl<|Zc (X.rangeE (enc := (fun x : ByteArray => Value.string x)) Tryz.underlying94 h.X rfl) rfl ?_
 rintro _ w1 ⟨rfl, hI1, hk1, hz1⟩
 refine Ze<|Zb<|X.loopL (σ := List ByteArray × Value) (fun s => [(0, ptrV b), (3, s.2), (12, .pointer (some ⟨w.heap.size, 0, none⟩))]) (fun s w' => It (fun x : ByteArray => Value.string x) w' w.heap.size bx (mv (fun v : Int => Value.int .i64 v) s0.fx) s.1 ∧ Mine KI 3 (fun q => w.heap.size < q) 0 0 w' s.2 (vals s0.fx s.1) ∧ s.1.Nodup ∧ (∀ k, k ∈ s.1 → k ∈ s0.fx.map (·.1)) ∧ Keep w w') (fun s => s0.fx.length + 1 - s.1.length) ([], .slice none 0 0) ⟨rfl, rfl, rfl, trivial⟩ ⟨hI1, Mine.nil _ _ _ _ _ _, List.nodup_nil, fun _ h => (by simp at h), hk1⟩ ?_
 rintro ⟨ds, v⟩ e w1 ⟨hI, hMv, hnd, hin, hk⟩ hback
 dsimp only at hMv hnd hin hI ⊢
 have hk' := hk.size
 have hIl := hI.lt
 have hdl := nodup_len hnd hin
 rw [List.length_map] at hdl
 have hvl : (vals s0.fx ds).length = ds.length := by simp [vals]
 refine Zs<|Zr<|Zc (X.nextE hI rfl) rfl ?_
 rintro _ w2 (⟨rfl, hall2, rfl⟩ | ⟨p2, hp2, hpn2, rfl, hI2, hx2, hz2⟩)
 ·
  refine Zo (X.extr rfl rfl) rfl<|Ze<|Zs<|Zf rfl<|Zx rfl<|Zs<|Zs<|Zr<|Zom rfl rfl<|Zo (X.nilCk rfl) rfl<|Zo (X.fldB (j := 5) Zu98 rfl rfl Tryz.sizeOf96 rfl) rfl<|Zo (X.load1B Tryz.isAgg96 (h.B.keep hk) rfl rfl) rfl<|Zo (X.lenSl Zu96 rfl) rfl<|Zom rfl rfl<|Ze<|Zb ?_
  have hall : ∀ k, k ∈ s0.fx.map (·.1) → k ∈ ds := fun k hm => by
    obtain ⟨q, hq, rfl⟩ := List.mem_map.1 hm
    exact hall2 (q.1, .int .i64 q.2) (List.mem_map.2 ⟨q, hq, rfl⟩)
  have hCh := ((h.M.rd KCh_flat).2.keep hk)
  refine X.loopL (σ := Nat × Value) (fun s => [(3, s.2), (24, .slice A n c), (25, .int .i64 (n : Int)), (26, .int .i64 (s.1 : Int))]) (fun s w' => s.1 ≤ n ∧ Mine KI 3 (fun q => w.heap.size < q) 0 0 w' s.2 (vals s0.fx ds ++ newF (s0.chs.take s.1)) ∧ Keep w w') (fun s => n - s.1) (0, v) ⟨rfl, rfl, rfl, rfl, trivial⟩ ⟨Nat.zero_le _, by have h9 := hMv; simpa [newF] using h9, hk⟩ ?_
  rintro ⟨i, v2⟩ e w4 ⟨hin2, hM2, hk2⟩ hback
  dsimp only at hin2 hM2 ⊢
  have hk2' := hk2.size
  have hCi : Sl KCh 0 w.heap.size w4 A n s0.chs := (h.M.rd KCh_flat).2.keep hk2
  have hnl : (newF (s0.chs.take i)).length ≤ i := by
    rw [newF, List.length_map]
    exact Nat.le_trans (List.length_filter_le _ _) (by rw [List.length_take]; omega)
  refine Zs<|Zr<|X.opP X.wN rfl rfl (X.lss rfl rfl) (fun h27 => ?_) (fun h27 => ?_)
  ·obtain ⟨x, hx⟩ := getN i hchl Zz
   refine Ze<|Zs<|Zt rfl<|Zk<|Zs<|Zb<|Zs<|Zr<|Zo (X.idxS hCi Zu96 Zs143 rfl rfl ⟨by omega, by omega⟩) rfl<|Zo (X.loadSN Tryz.isAgg143 Zs143 hCi hx rfl (fun _ h => h.1) rfl) rfl<|Zc (X.allocE Tryz.zeroValue143 rfl) rfl ?_
   rintro _ w3 ⟨rfl, hB3, hk3, hz3⟩
   refine Zc (X.storeNE Zs143 hB3 rfl rfl rfl rfl (fun u hu => by simp at hu; rcases hu with rfl | rfl | rfl <;> rfl)) rfl ?_
   rintro _ w4 ⟨hB4, hx4, hz4⟩
   refine Ze<|Zs<|Zr<|Zo (X.fldB (j := 0) Tryz.underlying143 rfl rfl Zs9 rfl) rfl<|Zo (X.load1B Zi9 hB4 rfl rfl) rfl<|X.opP X.wN rfl rfl (X.eqD rfl rfl) (fun h32 => ?_) (fun h32 => ?_)
   ·refine Ze<|Zt rfl<|Zr<|Zom rfl rfl<|Zo (X.fldB (j := 2) Tryz.underlying143 rfl rfl Zs3 rfl) rfl<|Zo (X.load1B Zi3 hB4 rfl rfl) rfl<|Zc (X.litKF KI_flat (K := KI) (xs := [Operand.tmp 35]) (vs := [.int .i64 x.2.2]) (ys := [x.2.2]) Zu74 Zs3 Zv3 rfl rfl rfl rfl rfl (repsI1 (by have := hok.chs x (List.mem_of_getElem? hx) h32; omega))) rfl ?_
    rintro _ w5 ⟨rfl, hs5, hB5, hk5, hz5⟩
    refine Zc (X.appE (K := KI) (S := fun q => w.heap.size < q) KI_flat Zu74 EId rfl rfl (hM2.keep ((hk3.step hx4 zq34).trans hk5)) hs5 zq15 zq34) rfl ?_
    rintro v6 w6 ⟨hM6, hx6⟩
    have hx6' := hx6.size
    refine Zoa rfl rfl<|Ze<|Zi<|Zr<|Zo (X.add rfl rfl (X.w_i64 Zz)) rfl<|Zomi rfl rfl<|Ze ?_
    refine hback (i + 1, _) _ _ ⟨rfl, rfl, rfl, rfl, trivial⟩ ⟨by (dsimp only); omega, by have h9 := hM6; (dsimp only); rw [newF_snoc hx, if_pos h32, ← List.append_assoc]; exact h9, ((((hk2.trans hk3).step hx4 zq34).trans hk5).step hx6 zq34)⟩ (by (dsimp only); omega)
   ·have h32 : ¬ x.1 = ⟨#[]⟩ := h32
    refine Ze<|Zf rfl<|Zk<|Zi<|Zr<|Zo (X.add rfl rfl (X.w_i64 Zz)) rfl<|Zomi rfl rfl<|Ze ?_
    refine hback (i + 1, v2) _ _ ⟨rfl, rfl, rfl, rfl, trivial⟩ ⟨by (dsimp only); omega, by have h9 := (hM2.keep (hk3.step hx4 zq34)); (dsimp only); rw [newF_snoc hx, if_neg h32, List.append_nil]; exact h9, ((hk2.trans hk3).step hx4 zq34)⟩ (by (dsimp only); omega)
  ·refine Ze<|Zs<|Zf rfl<|Zx rfl<|Zs<|Zr<|Zom rfl rfl ?_
   have q8 := hM2.slF KI_flat 0 (fun _ _ => Nat.zero_le _)
   obtain ⟨A8, c8, rfl, hc8, hs8⟩ := q8
   refine Zc (X.callNE (sortInt_c hM2 (by (try simp only [List.length_append]); omega)) Tryz.call123 rfl rfl) rfl ?_
   rintro _ w7 ⟨rfl, hMs, hx7⟩
   have hx7' := hx7.size
   refine Ze<|Zs<|Zr<|Zom rfl rfl<|Zc (X.callNE (compInt_c hMs) Tryz.call124 rfl rfl) rfl ?_
   rintro _ w9 ⟨rfl, hcc, hMq, hx9⟩
   have hx9' := hx9.size
   refine Zoa rfl rfl<|Ze<|X.ret1 Tryz.func81 Tryz.results81 rfl ?_
   have e1 : Lib.compact ((vals s0.fx ds ++ newF (s0.chs.take i)).mergeSort fun x y => decide (x ≤ y)) = s0.near := by
     have h8 : s0.chs.take i = s0.chs := List.take_of_length_le Zz
     rw [h8]
     exact nrs_eq fun x => by rw [List.mem_append, List.mem_append, vals_mem hok.ndx hin hall]
   rw [e1] at hMq hcc ⊢
   exact ⟨_, _, rfl, hcc, hMq.mono (fun q hq h => ⟨by (try simp only [] at h); omega, hq⟩), ((hk2.step hx7 zq34).step hx9 zq34)⟩
 ·have hx2' := hx2.size
  obtain ⟨q, hq, rfl⟩ : ∃ q : ByteArray × Int, q ∈ s0.fx ∧ p2 = (q.1, Value.int .i64 q.2) := by
    obtain ⟨q, hq, e⟩ := List.mem_map.1 hp2
    exact ⟨q, hq, e.symm⟩
  obtain ⟨hq0, hq1, _⟩ := hok.fx q hq
  have hasc : asc q.1 s0.fx = some q.2 := asc_mem hok.ndx hq
  dsimp only at hpn2 hI2
  refine Zo (X.extr rfl rfl) rfl<|Ze<|Zs<|Zt rfl<|Zk<|Zb<|Zs<|Zr<|Zo (X.entryE hI2 hp2 rfl) rfl<|Zo (X.extr rfl rfl) rfl<|Zoai rfl rfl<|Ze<|Zr<|Zom rfl rfl<|Zomi rfl rfl<|Zc (X.litKF KI_flat (K := KI) (xs := [Operand.tmp 18]) (vs := [.int .i64 q.2]) (ys := [q.2]) Zu74 Zs3 Zv3 rfl rfl rfl rfl rfl (repsI1 ⟨by omega, by omega⟩)) rfl ?_
  rintro _ w10 ⟨rfl, hs10, hB10, hk10, hz10⟩
  refine Zc (X.appE (K := KI) (S := fun q => w.heap.size < q) KI_flat Zu74 EId rfl rfl ((hMv.ext hx2 zq3 zq3).keep hk10) hs10 zq15 zq34) rfl ?_
  rintro v11 w11 ⟨hM11, hx11⟩
  have hx11' := hx11.size
  refine Zoa rfl rfl<|Ze<|Zi ?_
  refine hback (q.1 :: ds, _) _ _ ⟨rfl, rfl, rfl, trivial⟩ ⟨((hI2.keep hk10).ext hx11 zq3 zq3), (by rw [vals_cons hasc]; exact hM11), List.nodup_cons.2 ⟨hpn2, hnd⟩, (fun a ha => (List.mem_cons.1 ha).elim (fun e => by rw [e]; exact List.mem_map.2 ⟨q, hq, rfl⟩) (hin a)), (((hk.step hx2 zq34).trans hk10).step hx11 zq34)⟩ (by have := nodup_len (ks := s0.fx.map (·.1)) (List.nodup_cons.2 ⟨hpn2, hnd⟩) (fun a ha => (List.mem_cons.1 ha).elim (fun e => by rw [e]; exact List.mem_map.2 ⟨q, hq, rfl⟩) (hin a)); simp only [List.length_map, List.length_cons] at this ⊢; omega)
def spotL (ls : LS) (k : Int) (n : Nat) : List Int := ((List.range n).filter fun i : Nat => (asc (k, (i : Int)) ls).getD false).map fun i : Nat => (i : Int)
theorem spotL_len (ls : LS) (k : Int) (n : Nat) : (spotL ls k n).length ≤ n := by
  rw [spotL, List.length_map]
  exact Nat.le_trans (List.length_filter_le _ _) (by simp)
theorem spotL_succ (ls : LS) (k : Int) (n : Nat) : spotL ls k (n + 1) = spotL ls k n ++ if (asc (k, (n : Int)) ls).getD false = true then [(n : Int)] else [] := by
  rw [spotL, spotL, List.range_succ, List.filter_append, List.map_append]
  congr 1
  by_cases h : (asc (k, (n : Int)) ls).getD false = true <;> simp [h]
def DS.spots (k : Int) (s : DS) : List Int := spotL s.ls k (secs (flen s.fs k))
def looseL (s : DS) : List Int → Nat × Nat
  | [] => (0, 0)
  | k :: l => ((s.spots k).length + (looseL s l).1, (if (fat s.fs k).1.length ≠ (fat s.fs k).2.length then 1 else 0) + (looseL s l).2)
def DS.loose (s : DS) : Nat × Nat × Nat := (s.chs.length, looseL s s.near)
theorem looseL_app (s : DS) : ∀ (a b : List Int), looseL s (a ++ b) = ((looseL s a).1 + (looseL s b).1, (looseL s a).2 + (looseL s b).2)
  | [], b => by simp [looseL]
  | k :: a, b => by rw [List.cons_append, looseL, looseL_app s a b, looseL]; simp only [Nat.add_assoc]
theorem looseL_le {s : DS} (h : s.Ok) : ∀ l : List Int, (looseL s l).1 ≤ l.length * 16384 ∧ (looseL s l).2 ≤ l.length
  | [] => by simp [looseL]
  | k :: l => by
    have := looseL_le h l
    have h1 := spotL_len s.ls k (secs (flen s.fs k))
    have h2 := h.flen k
    have h3 : (s.spots k).length ≤ 16384 := by rw [DS.spots]; rw [secs] at h1; rw [secs]; omega
    simp only [looseL, List.length_cons]
    refine ⟨by omega, ?_⟩
    split <;> omega
theorem near_ok {s : DS} (h : s.Ok) : ∀ k, k ∈ s.near → 0 ≤ k ∧ k < s.fs.length := by
  intro k hk
  rcases List.mem_append.1 (nrs_mem.1 hk) with hk | hk
  · obtain ⟨p, hp, rfl⟩ := List.mem_map.1 hk
    have := h.fx p hp; omega
  · obtain ⟨c, hc, rfl⟩ := List.mem_map.1 hk
    obtain ⟨h1, h2⟩ := List.mem_filter.1 hc
    exact h.chs c h1 (by simpa using h2)
theorem inc_len {a b : Int} : ∀ {l : List Int}, l.Pairwise (· < ·) → (∀ x, x ∈ l → a ≤ x ∧ x < b) → a ≤ b → (l.length : Int) ≤ b - a
  | [], _, _, h => by simp; omega
  | x :: l, hp, hm, _ => by
    obtain ⟨h1, h2⟩ := List.pairwise_cons.1 hp
    have h3 := hm x List.mem_cons_self
    have := inc_len (a := x + 1) (b := b) h2 (fun y hy => ⟨by have := h1 y hy; omega, (hm y (List.mem_cons_of_mem _ hy)).2⟩) Zz
    rw [List.length_cons]; omega
theorem near_len {s : DS} (h : s.Ok) : s.near.length ≤ s.fs.length := by
  have := inc_len (nrs_inc (s.fx.map (·.2) ++ newF s.chs)) (fun x hx => near_ok h x hx) Zz
  have e : (nrs (s.fx.map (·.2) ++ newF s.chs)).length = s.near.length := rfl
  omega
theorem spots_c {col : Nat → Nat} {b bf bd bx bl : Nat} {A : Option Addr} {n c : Nat} {pt : List Nat} {s0 : DS} (k : Int) (w : World) (h : DkB col w b bf bd bx bl A n c pt s0) (hok : s0.Ok) (hk0 : 0 ≤ k) (hk1 : k < s0.fs.length) : Ret Tryz.prog 82 #[ptrV b, .int .i64 k] w fun r w' => ∃ A' c', r = .slice A' (s0.spots k).length c' ∧ (s0.spots k).length ≤ c' ∧ Mine KI 3 (fun q => w.heap.size ≤ q ∧ q < w'.heap.size) 0 0 w' (.slice A' (s0.spots k).length c') (s0.spots k) ∧ Keep w w' := by
 have hbl := h.B.lt
 have hfl := h.F.lt
 have hdl := h.G.lt
 have hxl := h.X.lt
 have hll := h.L.lt
 have hcb := h.cb
 have hcf := h.cf
 have hcd := h.cd
 have hcx := h.cx
 have hcl := h.cl
 obtain ⟨z1, z2, z3, z4, z5, z6, z7, z8, z9, z10⟩ := h.ne
 have hlt := h.lt
 have hok1 := hok.lf
 have hok2 := hok.few
 obtain ⟨pf, f, A1, n1, c1, A2, n2, c2, hfb, hpf, hff, hn1, hn2, hfl1, hpc, hBf, hM1, hM2⟩ := h.at_ hk0 hk1
 have hlf := hok.len hff
 have hpl2 := hBf.lt
 refine X.enter Tryz.func82 rfl Tryz.ntmps82 rfl<|Zs<|Zr<|Zoa rfl rfl<|Ze<|Zs<|Zr<|Zoa rfl rfl<|Ze<|Zs<|Zs<|Zr<|Zom rfl rfl<|Zo (X.nilCk rfl) rfl<|Zo (X.fldB (j := 1) Zu98 rfl rfl Tryz.sizeOf93 rfl) rfl<|Zo (X.load1B Tryz.isAgg93 h.B rfl rfl) rfl<|Zomi rfl rfl<|Zo (X.lookupAt Zu93 (keyInt Zu3) Tryz.zeroValue138 (h.F) hfb rfl rfl) rfl<|Zo (X.nilCk rfl) rfl<|Zo (X.fldB (j := 0) Zu140 rfl rfl Zs43 rfl) rfl<|Zo (X.load1B Zi43 hBf rfl rfl) rfl<|Zo (X.lenSl Zu43 rfl) rfl<|Zc (X.callE (sectors_c _ _ Zz) Tryz.call86 rfl rfl) rfl ?_
 rintro _ w1 ⟨rfl, hk1⟩
 have hk1' := hk1.size
 refine Zom rfl rfl<|Ze<|Zb<|X.loopL (σ := Nat × Value) (fun s => [(0, ptrV b), (1, .int .i64 k), (5, s.2), (17, .int .i64 (((n1 + 63) / 64 : Nat) : Int)), (18, .int .i64 (s.1 : Int))]) (fun s w' => s.1 ≤ (n1 + 63) / 64 ∧ Mine KI 3 (fun q => w.heap.size ≤ q) 0 0 w' s.2 (spotL s0.ls k s.1) ∧ Keep w w') (fun s => (n1 + 63) / 64 - s.1) (0, .slice none 0 0) ⟨rfl, rfl, rfl, rfl, rfl, trivial⟩ ⟨Nat.zero_le _, Mine.nil _ _ _ _ _ _, hk1⟩ ?_
 rintro ⟨i, v⟩ e w4 ⟨hin, hMv, hk⟩ hback
 dsimp only at hin hMv ⊢
 have hk' := hk.size
 have hsl := spotL_len s0.ls k i
 refine Zs<|Zr<|X.opP X.wN rfl rfl (X.lss rfl rfl) (fun h19 => ?_) (fun h19 => ?_)
 ·refine Ze<|Zs<|Zt rfl<|Zk<|Zs<|Zb<|Zs<|Zr<|Zomi rfl rfl<|Zoai rfl rfl<|Ze<|Zs<|Zr<|Zom rfl rfl<|Zo (X.nilCk rfl) rfl<|Zo (X.fldB (j := 6) Zu98 rfl rfl Tryz.sizeOf95 rfl) rfl<|Zo (X.load1B Tryz.isAgg95 (h.B.keep hk) rfl rfl) rfl<|Zomi rfl rfl<|Zomi rfl rfl<|Zo (X.buildB (vs := [(0, .int .i64 k), (1, .int .i64 (i : Int))]) (cs := #[.int .i64 k, .int .i64 (i : Int)]) rfl Zl) rfl<|Zo (X.lookupV (enc := fun x : Int × Int => encPl x) (venc := fun v : Bool => Value.bool v) (z := false) (a := (k, (i : Int))) Tryz.underlying95 keyPl Zv4 (h.L.keep hk) rfl rfl) rfl<|Ze<|X.condB rfl (fun hc => ?_) (fun hc => ?_)
  ·refine Zr<|Zom rfl rfl<|Zomi rfl rfl<|Zc (X.litKF KI_flat (K := KI) (xs := [Operand.tmp 30]) (vs := [.int .i64 (i : Int)]) (ys := [(i : Int)]) Zu74 Zs3 Zv3 rfl rfl rfl rfl rfl (repsI1 ⟨by omega, by omega⟩)) rfl ?_
   rintro _ w2 ⟨rfl, hs2, hB2, hk2, hz2⟩
   refine Zc (X.appE (K := KI) (S := fun q => w.heap.size ≤ q) KI_flat Zu74 EId rfl rfl (hMv.keep hk2) hs2 zq15 zq34) rfl ?_
   rintro v3 w3 ⟨hM3, hx3⟩
   have hx3' := hx3.size
   refine Zoa rfl rfl<|Ze<|Zi<|Zr<|Zo (X.add (c := ((i + 1 : Nat) : Int)) rfl rfl (by rw [X.w_i64 Zz]; omega)) rfl ?_
   refine Zomi rfl rfl<|Ze ?_
   refine hback (i + 1, _) _ _ ⟨rfl, rfl, rfl, rfl, rfl, trivial⟩ ⟨by (dsimp only); omega, by have h9 := hM3; (dsimp only); rw [spotL_succ, if_pos hc]; exact h9, ((hk.trans hk2).step hx3 zq34)⟩ (by (dsimp only); omega)
  ·refine Zk<|Zi<|Zr<|Zo (X.add (c := ((i + 1 : Nat) : Int)) rfl rfl (by rw [X.w_i64 Zz]; omega)) rfl ?_
   refine Zomi rfl rfl<|Ze ?_
   refine hback (i + 1, v) _ _ ⟨rfl, rfl, rfl, rfl, rfl, trivial⟩ ⟨by (dsimp only); omega, by have h9 := hMv; (dsimp only); rw [spotL_succ, if_neg (by rw [hc]; decide), List.append_nil]; exact h9, hk⟩ (by (dsimp only); omega)
 ·refine Ze<|Zs<|Zf rfl<|Zx rfl<|Zs<|Zr<|Zom rfl rfl<|Zoa rfl rfl<|Ze<|X.ret1 Tryz.func82 Tryz.results82 rfl ?_
  have e1 : spotL s0.ls k i = s0.spots k := by rw [DS.spots, hfl1, secs, show i = (n1 + 63) / 64 by omega]
  rw [e1] at hMv
  obtain ⟨A', c', rfl, hc', _⟩ := hMv.slice
  exact ⟨_, _, rfl, hc', hMv.mono (fun q hq h => ⟨by (try simp only [] at h); omega, hq⟩), hk⟩
theorem Loose_c {col : Nat → Nat} {b bf bd bx bl : Nat} {A : Option Addr} {n c : Nat} {pt : List Nat} {s0 : DS} (w : World) (h : DkB col w b bf bd bx bl A n c pt s0) (hok : s0.Ok) (hsz : s0.size ≤ 200000) : Ret Tryz.prog 34 #[ptrV b] w fun r w' => r = .tuple #[.int .i64 (s0.loose.1 : Int), .int .i64 (s0.loose.2.1 : Int), .int .i64 (s0.loose.2.2 : Int)] ∧ Keep w w' := by
 have hbl := h.B.lt
 have hfl := h.F.lt
 have hdl := h.G.lt
 have hxl := h.X.lt
 have hll := h.L.lt
 have hcb := h.cb
 have hcf := h.cf
 have hcd := h.cd
 have hcx := h.cx
 have hcl := h.cl
 obtain ⟨z1, z2, z3, z4, z5, z6, z7, z8, z9, z10⟩ := h.ne
 have hlt := h.lt
 have hok1 := hok.lf
 have hok2 := hok.few
 have hsz2 := hsz
 rw [DS.size] at hsz2
 have hchl := h.M.len
 refine X.enter Tryz.func34 rfl Tryz.ntmps34 rfl<|Zs<|Zr<|Zoa rfl rfl<|Zoa rfl rfl<|Zoa rfl rfl<|Ze<|Zs<|Zs<|Zr<|Zom rfl rfl<|Zc (X.callE (is_c _ h.B) Tryz.call80 rfl rfl) rfl ?_
 rintro _ w1 ⟨rfl, hk1⟩
 have hk1' := hk1.size
 refine Zo (X.not_ rfl) rfl<|Ze<|Zf rfl<|Zk<|Zs<|Zr<|Zoa rfl rfl<|Zoa rfl rfl<|Ze<|Zs<|Zs<|Zr<|Zom rfl rfl<|Zc (X.callE (near_c _ (h.keep hk1) hok hsz) Tryz.call81 rfl rfl) rfl ?_
 rintro _ w2 ⟨An, cn, rfl, hcn, hMn, hk2⟩
 have hk2' := hk2.size
 refine Zo (X.lenSl Zu74 rfl) rfl<|Zom rfl rfl<|Ze<|Zb ?_
 have gS := ((hMn.rd KI_flat).2)
 have hnl : s0.near.length = s0.near.length := rfl
 have hnn := near_len hok
 refine X.loopL (σ := Nat × Int × Int) (fun s => [(0, ptrV b), (5, .int .i64 s.2.1), (6, .int .i64 s.2.2), (14, .slice An s0.near.length cn), (15, .int .i64 (s0.near.length : Int)), (16, .int .i64 (s.1 : Int))]) (fun s w' => s.1 ≤ s0.near.length ∧ s.2.1 = ((looseL s0 (s0.near.take s.1)).1 : Int) ∧ s.2.2 = ((looseL s0 (s0.near.take s.1)).2 : Int) ∧ Sl KI 0 w2.heap.size w' An s0.near.length s0.near ∧ Keep w w') (fun s => s0.near.length - s.1) (0, 0, 0) ⟨rfl, rfl, rfl, rfl, rfl, rfl, trivial⟩ ⟨Nat.zero_le _, rfl, rfl, gS, (hk1.trans hk2)⟩ ?_
 rintro ⟨i, a, z⟩ e w4 ⟨hin, ha, hz, hSn, hk⟩ hback
 dsimp only at hin ha hz ⊢
 have hk' := hk.size
 have hll := looseL_le hok (s0.near.take i)
 have htl : (s0.near.take i).length = i := by rw [List.length_take]; omega
 rw [htl] at hll
 refine Zs<|Zr<|X.opP X.wN rfl rfl (X.lss rfl rfl) (fun h17 => ?_) (fun h17 => ?_)
 ·obtain ⟨k, hx⟩ := getN i hnl Zz
  obtain ⟨hk0, hk1⟩ := near_ok hok k (List.mem_of_getElem? hx)
  obtain ⟨pf, f, A1, n1, c1, A2, n2, c2, hfb, hpf, hff, hn1, hn2, hfl1, hpc, hBf, hM1, hM2⟩ := h.at_ hk0 hk1
  have hlf := hok.len hff
  have hpl2 := hBf.lt
  have hfat := fat_at hff
  have hsk : (s0.spots k).length ≤ 16384 := by
    have h1 := spotL_len s0.ls k (secs (flen s0.fs k))
    have h2 := hok.flen k
    rw [DS.spots]; rw [secs] at h1; rw [secs]; omega
  have hstep : looseL s0 (s0.near.take (i + 1)) = ((looseL s0 (s0.near.take i)).1 + (s0.spots k).length, (looseL s0 (s0.near.take i)).2 + if n1 ≠ n2 then 1 else 0) := by
    rw [take_at hx, looseL_app, looseL, looseL, hfat, hn1, hn2]; simp
  refine Ze<|Zs<|Zt rfl<|Zk<|Zs<|Zb<|Zs<|Zr<|Zo (X.idxS hSn Zu74 Zs3 rfl rfl ⟨by omega, by omega⟩) rfl<|Zo (X.loadS Zi3 hSn hx rfl (fun _ h => by rw [h.1]; rfl)) rfl ?_
  refine Zoai rfl rfl<|Ze<|Zs<|Zr<|Zomi rfl rfl<|Zom rfl rfl<|Zomi rfl rfl<|Zc (X.callE (spots_c k _ (h.keep hk) hok hk0 hk1) Tryz.call82 rfl rfl) rfl ?_
  rintro _ w3 ⟨As, cs, rfl, hcs, hMs, hk3⟩
  have hk3' := hk3.size
  refine Zo (X.lenSl Zu74 rfl) rfl<|Zo (X.add rfl rfl (X.w_i64 Zz)) rfl<|Zoai rfl rfl<|Ze<|Zs<|Zr<|Zom rfl rfl<|Zo (X.nilCk rfl) rfl<|Zo (X.fldB (j := 1) Zu98 rfl rfl Tryz.sizeOf93 rfl) rfl<|Zo (X.load1B Tryz.isAgg93 (h.B.keep (hk.trans hk3)) rfl rfl) rfl<|Zomi rfl rfl<|Zo (X.lookupAt Zu93 (keyInt Zu3) Tryz.zeroValue138 (((h.F.keep hk).keep hk3)) hfb rfl rfl) rfl<|Zoa rfl rfl<|Ze<|Zs<|X.regionD (fun k => w.heap.size ≤ k) 11 Zl Zl (fun w4 hk4 hz4 => ?_)
  refine ZDc 0 rfl Zl (X.move rfl)<|ZDc 1 rfl Zl (X.nilCk rfl)<|ZDc 2 rfl Zl (X.fldB (j := 0) Zu140 rfl rfl Zs43 rfl)<|ZD 3 rfl Zl (fun w' hk' => X.load1B Zi43 (hBf.keep (((hk.trans hk3).trans hk4).step hk' zq34)) rfl rfl) ?_
  refine ZDc 4 rfl Zl (X.lenSl Zu43 rfl)<|ZDc 5 rfl Zl (X.move rfl)<|ZDc 6 rfl Zl (X.nilCk rfl)<|ZDc 7 rfl Zl (X.fldB (j := 1) Zu140 rfl rfl Zs43 rfl)<|ZD 8 rfl Zl (fun w' hk' => X.load1B Zi43 (hBf.keep (((hk.trans hk3).trans hk4).step hk' zq34)) rfl rfl) ?_
  refine ZDc 9 rfl Zl (X.lenSl Zu43 rfl)<|ZDc 10 rfl Zl (X.neI rfl rfl)<|Zdend Zl<|X.condB rfl (fun hc => ?_) (fun hc => ?_)
  ·have hc : n1 ≠ n2 := by have := of_decide_eq_true hc; omega
   refine Zr<|Zomi rfl rfl<|Zo (X.add rfl rfl (X.w_i64 Zz)) rfl<|Zoai rfl rfl<|Ze<|Zi<|Zr<|Zo (X.add (c := ((i + 1 : Nat) : Int)) rfl rfl (by rw [X.w_i64 Zz]; omega)) rfl ?_
   refine Zomi rfl rfl<|Ze ?_
   refine hback (i + 1, _, _) _ _ ⟨rfl, rfl, rfl, rfl, rfl, rfl, trivial⟩ ⟨by (dsimp only); omega, by (dsimp only); rw [hstep]; (dsimp only); omega, by (dsimp only); rw [hstep, if_pos hc]; (dsimp only); omega, (hSn.keep (hk3.trans hk4)), ((hk.trans hk3).trans hk4)⟩ (by (dsimp only); omega)
  ·have hc : ¬ n1 ≠ n2 := by have := of_decide_eq_false hc; omega
   refine Zk<|Zi<|Zr<|Zo (X.add (c := ((i + 1 : Nat) : Int)) rfl rfl (by rw [X.w_i64 Zz]; omega)) rfl ?_
   refine Zomi rfl rfl<|Ze ?_
   refine hback (i + 1, _, _) _ _ ⟨rfl, rfl, rfl, rfl, rfl, rfl, trivial⟩ ⟨by (dsimp only); omega, by (dsimp only); rw [hstep]; (dsimp only); omega, by (dsimp only); rw [hstep, if_neg hc]; (dsimp only); omega, (hSn.keep (hk3.trans hk4)), ((hk.trans hk3).trans hk4)⟩ (by (dsimp only); omega)
 ·refine Ze<|Zs<|Zf rfl<|Zx rfl<|Zs<|Zr<|Zom rfl rfl<|Zo (X.nilCk rfl) rfl<|Zo (X.fldB (j := 5) Zu98 rfl rfl Tryz.sizeOf96 rfl) rfl<|Zo (X.load1B Tryz.isAgg96 (h.B.keep hk) rfl rfl) rfl<|Zo (X.lenSl Zu96 rfl) rfl<|Zomi rfl rfl<|Zomi rfl rfl<|Zoai rfl rfl<|Zoai rfl rfl<|Zoai rfl rfl<|Ze<|X.ret3 (v1 := (.int .i64 _)) (v2 := (.int .i64 _)) (v3 := (.int .i64 _)) Tryz.func34 Tryz.results34 rfl rfl rfl ?_
  have e1 : s0.near.take i = s0.near := List.take_of_length_le Zz
  rw [e1] at ha hz
  rw [ha, hz, ← hchl]
  exact ⟨rfl, hk⟩
theorem looseR_c {col : Nat → Nat} {w : World} {b : Nat} {s : DS} (h : DkR col w b s) (hok : s.Ok) (hsz : s.size ≤ 200000) : Ret Tryz.prog 34 #[ptrV b] w fun r w' => r = .tuple #[.int .i64 (s.loose.1 : Int), .int .i64 (s.loose.2.1 : Int), .int .i64 (s.loose.2.2 : Int)] ∧ Keep w w' := let ⟨_, _, _, _, _, _, _, _, h⟩ := h; Loose_c w h hok hsz
def bit (l : List Bool) (n : Nat) : Bool := l.getD n false
def zap (fx b : List UInt8) (s : Nat) : List UInt8 := b.mapIdx fun i y => if i / 64 = s then fx.getD i 0 else y
def zaps (kp : List Bool) (fx : List UInt8) : Nat → List Int → List UInt8 → List UInt8
  | _, [], b => b
  | n, s :: l, b => zaps kp fx (n + 1) l (if bit kp n = true then b else zap fx b s.toNat)
def keptB (kp : List Bool) (n : Nat) (sp : List Int) (f : FILE) (size : Nat) : List UInt8 := ((fun all : List UInt8 => (all ++ f.2.drop all.length).take size) (zaps kp f.2 n sp f.1))
def sizeK (sz : List Bool) (m : Nat) (f : FILE) : Nat := if f.1.length ≠ f.2.length ∧ bit sz m = true then f.1.length else f.2.length
def cntK (f : FILE) : Nat := if f.1.length ≠ f.2.length then 1 else 0
def tns (cs : List CHG) (d : DIR) : DIR := cs.foldl (fun d c => trn c d) d
def nameOf (d : DIR) (k : Int) : Option ByteArray := (d.find? fun p => decide (p.2 = k)).map (·.1)
def loseF (s : DS) (d : DIR) (kp sz : List Bool) : List Int → Nat → Nat → List FILE × DIR → List FILE × DIR
  | [], _, _, o => o
  | k :: l, n, m, o => loseF s d kp sz l (n + (s.spots k).length) (m + cntK (fat s.fs k)) (match nameOf d k with
    | none => o
    | some nm => (fun b : List UInt8 => (o.1 ++ [(b, b)], put nm (o.1.length : Int) o.2)) (keptB kp n (s.spots k) (fat s.fs k) (sizeK sz m (fat s.fs k))))
def DS.left (dn : Nat) (kp sz : List Bool) (s : DS) : List FILE × DIR := loseF s (tns (s.chs.take dn) s.fx) kp sz s.near 0 0 ([], [])
def DS.mk0 (rm : Int) (fs : List FILE) (dir fx : DIR) : DS := { rm, fs, dir, fx, chs := [], ls := [], fu := false, lf := 0 }
section
variable {col : Nat → Nat} {w w' : World} {b bf bd bx bl : Nat} {A : Option Addr} {n c : Nat} {pt : List Nat} {s : DS}
end
theorem New_ok (rm : Int) (w : World) (hrm : 1 ≤ rm ∧ rm ≤ 1048576) : Ret Tryz.prog 12 #[.int .i64 rm] w fun r w' => ∃ b bf bd bx bl col, r = .tuple #[ptrV b, .int .i64 0] ∧ DkB col w' b bf bd bx bl none 0 0 [] (DS.mk0 rm [] [] []) ∧ (∀ q, col q ≠ 0 → w.heap.size ≤ q) ∧ Keep w w' := by
  refine (New_c rm w).mono ?_
  rintro r w' (⟨h1, _⟩ | ⟨_, b, bf, bd, bx, bl, rfl, hB, hF, hG, hX, hL, h1, h2, h3, h4, h5, h6, hk⟩)
  · omega
  · refine ⟨b, bf, bd, bx, bl, (fun q => if q = b then 1 else if q = bf then 2 else if q = bd then 3 else if q = bx then 4 else if q = bl then 5 else 0), rfl, ⟨hB, hF, hG, hX, hL, Mine.nil _ _ _ _ _ _, ?_, ?_, ?_, ?_, ?_, ?_, rfl, fun k p f a1 _ => by simp at a1⟩, ?_, hk⟩
    · simp
    · simp only []; rw [if_neg Zz, if_pos True.intro]
    · simp only []; rw [if_neg Zz, if_neg Zz, if_pos True.intro]
    · simp only []; rw [if_neg Zz, if_neg Zz, if_neg Zz, if_pos True.intro]
    · simp only []; rw [if_neg Zz, if_neg Zz, if_neg Zz, if_neg Zz, if_pos True.intro]
    · intro q hq
      try simp only [] at hq
      split at hq
      · omega
      · split at hq
        · omega
        · split at hq
          · omega
          · split at hq
            · omega
            · split at hq
              · omega
              · exact absurd rfl hq
    · intro q hq
      try simp only [] at hq
      split at hq
      · omega
      · split at hq
        · omega
        · split at hq
          · omega
          · split at hq
            · omega
            · split at hq
              · omega
              · exact absurd rfl hq
theorem put_mem {κ ν : Type} [DecidableEq κ] {x : κ} {v : ν} : ∀ {m : List (κ × ν)} {p : κ × ν}, p ∈ put x v m → p = (x, v) ∨ p ∈ m
  | [], p, h => by simp [put] at h; exact .inl h
  | (a, u) :: m, p, h => by
    rw [put] at h
    split at h
    · rename_i e
      rcases List.mem_cons.1 h with h | h
      · exact .inl (by rw [h, e])
      · exact .inr (List.mem_cons_of_mem _ h)
    · rcases List.mem_cons.1 h with h | h
      · exact .inr (by rw [h]; exact List.mem_cons_self)
      · exact (put_mem h).imp id (List.mem_cons_of_mem _)
theorem put_len {κ ν : Type} [DecidableEq κ] (x : κ) (v : ν) : ∀ m : List (κ × ν), (put x v m).length ≤ m.length + 1
  | [] => by simp [put]
  | (a, u) :: m => by
    rw [put]
    split
    · simp
    · have := put_len x v m; simp; omega
theorem put_inj {κ ν : Type} [DecidableEq κ] {x : κ} {v : ν} : ∀ {m : List (κ × ν)}, (m.map (·.2)).Nodup → v ∉ m.map (·.2) → ((put x v m).map (·.2)).Nodup
  | [], _, _ => by simp [put]
  | (a, u) :: m, hn, hv => by
    simp only [List.map_cons, List.nodup_cons, List.mem_cons, not_or] at hn hv
    rw [put]
    split
    · simp only [List.map_cons, List.nodup_cons]; exact ⟨hv.2, hn.2⟩
    · simp only [List.map_cons, List.nodup_cons]
      refine ⟨fun h => ?_, put_inj hn.2 hv.2⟩
      obtain ⟨p, hp, e⟩ := List.mem_map.1 h
      rcases put_mem hp with rfl | hp
      · exact hv.1 e
      · exact hn.1 (by rw [← e]; exact List.mem_map.2 ⟨p, hp, rfl⟩)
theorem trn_eq (c : CHG) (d : DIR) : trn c d = if c.2.1 = ⟨#[]⟩ then (if c.1 = ⟨#[]⟩ then d else del c.1 d) else put c.2.1 c.2.2 (if c.1 = ⟨#[]⟩ then d else del c.1 d) := rfl
theorem trn_ne {c : CHG} {d : DIR} (h : ∀ p, p ∈ d → p.1 ≠ ⟨#[]⟩) : ∀ p, p ∈ trn c d → p.1 ≠ ⟨#[]⟩ := by
  have h1 : ∀ p, p ∈ (if c.1 = ⟨#[]⟩ then d else del c.1 d) → p.1 ≠ ⟨#[]⟩ := fun p hp => by
    split at hp
    · exact h p hp
    · exact h p ((del_sub d).subset hp)
  intro p hp
  rw [trn_eq] at hp
  split at hp
  · exact h1 p hp
  · rename_i e
    rcases put_mem hp with rfl | hp
    · exact e
    · exact h1 p hp
theorem tns_ne : ∀ {cs : List CHG} {d : DIR}, (∀ p, p ∈ d → p.1 ≠ ⟨#[]⟩) → ∀ p, p ∈ tns cs d → p.1 ≠ ⟨#[]⟩
  | [], _, h => h
  | c :: cs, d, h => tns_ne (cs := cs) (trn_ne (c := c) h)
def DirOk (n : Nat) (d : DIR) : Prop := (∀ p, p ∈ d → 0 ≤ p.2 ∧ p.2 < (n : Int) ∧ p.1.size ≤ 64) ∧ (d.map (·.1)).Nodup
theorem DirOk.trn {n : Nat} {d : DIR} (h : DirOk n d) {c : CHG} (hc : c.2.1 ≠ ⟨#[]⟩ → 0 ≤ c.2.2 ∧ c.2.2 < (n : Int) ∧ c.2.1.size ≤ 64) : DirOk n (trn c d) := by
  have h1 : DirOk n (if c.1 = ⟨#[]⟩ then d else del c.1 d) := by
    split
    · exact h
    · exact ⟨fun p hp => h.1 p ((del_sub d).subset hp), del_nodup h.2⟩
  rw [trn_eq]
  split
  · exact h1
  · rename_i e
    refine ⟨fun p hp => ?_, put_nodup h1.2⟩
    rcases put_mem hp with rfl | hp
    · exact hc e
    · exact h1.1 p hp
theorem DirOk.tns {n : Nat} : ∀ {cs : List CHG} {d : DIR}, DirOk n d → (∀ c, c ∈ cs → c.2.1 ≠ ⟨#[]⟩ → 0 ≤ c.2.2 ∧ c.2.2 < (n : Int) ∧ c.2.1.size ≤ 64) → DirOk n (tns cs d)
  | [], _, h, _ => h
  | c :: cs, d, h, hc => DirOk.tns (cs := cs) (h.trn (hc c List.mem_cons_self)) fun x hx => hc x (List.mem_cons_of_mem _ hx)
theorem tns_app (cs : List CHG) (c : CHG) (d : DIR) : tns (cs ++ [c]) d = trn c (tns cs d) := by rw [tns, List.foldl_append]; rfl
structure DS.Inv (s : DS) : Prop where
  ok : s.Ok
  tie : s.dir = tns s.chs s.fx
  inj : ∀ i, ((tns (s.chs.take i) s.fx).map (·.2)).Nodup
  fewi : ∀ i, (tns (s.chs.take i) s.fx).length ≤ 256
  nef : ∀ p, p ∈ s.fx → p.1 ≠ ⟨#[]⟩
theorem Inv_new {rm : Int} (h : 1 ≤ rm ∧ rm ≤ 1048576) : (DS.mk0 rm [] [] []).Inv :=
  ⟨⟨h, (fun _ h => by cases h), (fun _ h => by cases h), (fun _ h => by cases h), (fun _ h => by cases h), (fun _ h => by cases h), Nat.zero_le _, Nat.zero_le _, (show (0 : Int) ≤ 0 ∧ (0 : Int) ≤ 1048576 by decide), List.nodup_nil, List.nodup_nil⟩, rfl, fun i => by simp [DS.mk0, tns], fun i => by simp [DS.mk0, tns], fun _ h => by cases h⟩
theorem DS.Ok.did {s : DS} (h : s.Ok) (hd : ¬ s.down = true) : s.did.Ok := by
  refine ⟨h.rm, h.dir, h.fx, h.chs, h.chn, h.fs, h.few, h.fewx, ?_, h.nd, h.ndx⟩
  have h1 := h.lf
  simp only [DS.did]
  split
  · rename_i hf
    have : ¬ s.lf ≤ 0 := fun hl => hd (by rw [DS.down, hf]; simpa using hl)
    omega
  · exact h1
theorem DS.Inv.did {s : DS} (h : s.Inv) (hd : ¬ s.down = true) : s.did.Inv := ⟨h.ok.did hd, h.tie, h.inj, h.fewi, h.nef⟩
theorem DS.Inv.note {s : DS} (h : s.Inv) {c : CHG} (h1 : c.1 = ⟨#[]⟩ → 0 ≤ c.2.2 ∧ c.2.2 < (s.fs.length : Int)) (h2 : c.2.1 ≠ ⟨#[]⟩ → 0 ≤ c.2.2 ∧ c.2.2 < (s.fs.length : Int) ∧ c.2.1.size ≤ 64) (h3 : ((trn c s.dir).map (·.2)).Nodup) (h4 : (trn c s.dir).length ≤ 256) : (s.note c).Inv := by
  have hd : DirOk s.fs.length (trn c s.dir) := DirOk.trn ⟨fun p hp => h.ok.dir p hp, h.ok.nd⟩ h2
  have ht : trn c s.dir = tns (s.chs ++ [c]) s.fx := by rw [tns_app, ← h.tie]
  refine ⟨⟨h.ok.rm, hd.1, h.ok.fx, ?_, ?_, h.ok.fs, h4, h.ok.fewx, h.ok.lf, hd.2, h.ok.ndx⟩, ht, ?_, ?_, h.nef⟩
  · intro x hx
    rcases List.mem_append.1 hx with hx | hx
    · exact h.ok.chs x hx
    · rw [List.mem_singleton.1 hx]; exact h1
  · intro x hx
    rcases List.mem_append.1 hx with hx | hx
    · exact h.ok.chn x hx
    · rw [List.mem_singleton.1 hx]; exact h2
  · intro i
    show ((tns ((s.chs ++ [c]).take i) s.fx).map (·.2)).Nodup
    rcases Nat.lt_or_ge s.chs.length i with hi | hi
    · rw [List.take_of_length_le (by simp; omega), ← ht]; exact h3
    · rw [List.take_append_of_le_length hi]; exact h.inj i
  · intro i
    show (tns ((s.chs ++ [c]).take i) s.fx).length ≤ 256
    rcases Nat.lt_or_ge s.chs.length i with hi | hi
    · rw [List.take_of_length_le (by simp; omega), ← ht]; exact h4
    · rw [List.take_append_of_le_length hi]; exact h.fewi i
theorem DS.Inv.vals {s : DS} (h : s.Inv) : (s.dir.map (·.2)).Nodup := by
  have := h.inj s.chs.length
  rwa [List.take_length, ← h.tie] at this
theorem DS.Inv.ne {s : DS} (h : s.Inv) : ∀ p, p ∈ s.dir → p.1 ≠ ⟨#[]⟩ := by
  rw [h.tie]; exact tns_ne h.nef
theorem DS.Inv.create {s : DS} (h : s.Inv) (nm : ByteArray) : (s.create nm).2.Inv := by
  rw [DS.create]
  split
  · exact h
  · rename_i hd
    split
    · exact h
    · rename_i hr
      split
      · exact h
      · rename_i hth
        split
        · exact h
        · rename_i hf
          have h0 : ({ s with fs := s.fs ++ [([], [])] } : DS).Inv := by
            refine ⟨⟨h.ok.rm, fun p hp => ?_, fun p hp => ?_, fun c hc he => ?_, fun c hc he => ?_, fun f hf => ?_, h.ok.few, h.ok.fewx, h.ok.lf, h.ok.nd, h.ok.ndx⟩, h.tie, h.inj, h.fewi, h.nef⟩
            · have := h.ok.dir p hp; simp; omega
            · have := h.ok.fx p hp; simp; omega
            · have := h.ok.chs c hc he; simp; omega
            · have := h.ok.chn c hc he; simp; omega
            · rcases List.mem_append.1 hf with hf | hf
              · exact h.ok.fs f hf
              · rw [List.mem_singleton.1 hf]; exact ⟨Nat.zero_le _, Nat.zero_le _⟩
          have hrn : nm ≠ ⟨#[]⟩ ∧ nm.size ≤ 64 := by
            cases hq : rightN nm with
            | false => exact absurd hq hr
            | true => rw [rightN] at hq; simpa using hq
          have e1 : trn (⟨#[]⟩, nm, (s.fs.length : Int)) s.dir = put nm (s.fs.length : Int) s.dir := by rw [trn_eq, if_neg hrn.1, if_pos rfl]
          refine (h0.note (c := (⟨#[]⟩, nm, (s.fs.length : Int))) (fun _ => by simp; omega) (fun _ => by simp; exact ⟨by omega, hrn.2⟩) ?_ ?_).did (fun e => hd e)
          · show ((trn (⟨#[]⟩, nm, (s.fs.length : Int)) s.dir).map (·.2)).Nodup
            rw [e1]
            refine put_inj h.vals fun hm => ?_
            obtain ⟨p, hp, e⟩ := List.mem_map.1 hm
            have := h.ok.dir p hp; omega
          · show (trn (⟨#[]⟩, nm, (s.fs.length : Int)) s.dir).length ≤ 256
            rw [e1]
            have := put_len nm (s.fs.length : Int) s.dir
            omega
theorem DS.Inv.delete {s : DS} (h : s.Inv) (nm : ByteArray) : (s.delete nm).2.Inv := by
  rw [DS.delete]
  split
  · exact h
  · rename_i hd
    split
    · exact h
    · rename_i hn
      have hpos : 0 < s.fs.length := by
        cases ha : asc nm s.dir with
        | none => exact absurd ha hn
        | some k => have := h.ok.dir _ (asc_some ha); omega
      have hs : (trn (nm, ⟨#[]⟩, 0) s.dir).Sublist s.dir := by
        rw [trn_eq, if_pos rfl]
        split
        · exact List.Sublist.refl _
        · exact del_sub _
      refine (h.note (c := (nm, ⟨#[]⟩, 0)) (fun _ => by simp; exact hpos) (fun e => absurd rfl e) (h.vals.sublist (hs.map _)) ?_).did (fun e => hd e)
      exact Nat.le_trans hs.length_le h.ok.few
theorem DS.Inv.files {s : DS} (h : s.Inv) {fs : List FILE} {ls : LS} (hl : fs.length = s.fs.length) (hf : ∀ f, f ∈ fs → f.1.length ≤ 1048576 ∧ f.2.length ≤ 1048576) : ({ s with fs := fs, ls := ls } : DS).Inv :=
  ⟨⟨h.ok.rm, by rw [hl]; exact h.ok.dir, by rw [hl]; exact h.ok.fx, by rw [hl]; exact h.ok.chs, by rw [hl]; exact h.ok.chn, hf, h.ok.few, h.ok.fewx, h.ok.lf, h.ok.nd, h.ok.ndx⟩, h.tie, h.inj, h.fewi, h.nef⟩
theorem set_files {fs : List FILE} {k : Nat} {g : FILE} (h : ∀ f, f ∈ fs → f.1.length ≤ 1048576 ∧ f.2.length ≤ 1048576) (hg : g.1.length ≤ 1048576 ∧ g.2.length ≤ 1048576) : ∀ f, f ∈ fs.set k g → f.1.length ≤ 1048576 ∧ f.2.length ≤ 1048576 := fun f hf => by
  rcases List.mem_or_eq_of_mem_set hf with hf | rfl
  · exact h f hf
  · exact hg
theorem DS.Ok.fatl {s : DS} (h : s.Ok) (k : Int) : (fat s.fs k).1.length ≤ 1048576 ∧ (fat s.fs k).2.length ≤ 1048576 := by
  rw [fat, List.getD_eq_getElem?_getD]
  cases hf : s.fs[k.toNat]? with
  | none => exact ⟨Nat.zero_le _, Nat.zero_le _⟩
  | some f => exact h.len hf
theorem DS.Inv.sync {s : DS} (h : s.Inv) (nm : ByteArray) : (s.sync nm).2.Inv := by
  rw [DS.sync]
  split
  · exact h
  · rename_i hd
    split
    · exact h
    · rename_i k hk
      have := h.ok.fatl k
      exact (h.files (by simp) (set_files (g := ((fat s.fs k).1, (fat s.fs k).1)) h.ok.fs ⟨this.1, this.1⟩)).did (fun e => hd e)
theorem DS.Inv.write {s : DS} (h : s.Inv) (nm : ByteArray) (a : Int) (x : List UInt8) : (s.write nm a x).2.Inv := by
  rw [DS.write]
  split
  · exact h
  · rename_i hd
    split
    · exact h
    · rename_i k hk
      split
      · exact h
      · rename_i h1
        split
        · exact h
        · rename_i h2
          split
          · exact h
          · have hl := h.ok.fatl k
            have hw := wrt_len (fat s.fs k).1 a.toNat x Zz
            exact (h.files (by simp) (set_files (g := (wrt (fat s.fs k).1 a.toNat x, (fat s.fs k).2)) h.ok.fs ⟨by (dsimp only); rw [hw]; omega, hl.2⟩)).did (fun e => hd e)
theorem DS.Inv.fuse {s : DS} (h : s.Inv) (n : Int) : (s.fuse n).2.Inv := by
  rw [DS.fuse]
  split
  · exact h
  · exact ⟨⟨h.ok.rm, h.ok.dir, h.ok.fx, h.ok.chs, h.ok.chn, h.ok.fs, h.ok.few, h.ok.fewx, ⟨by (dsimp only); omega, by (dsimp only); omega⟩, h.ok.nd, h.ok.ndx⟩, h.tie, h.inj, h.fewi, h.nef⟩
def tks (f : Int → Nat) (d : DIR) : Nat := (d.map fun p => f p.2).sum
theorem tks_cons (f : Int → Nat) (p : ByteArray × Int) (d : DIR) : tks f (p :: d) = f p.2 + tks f d := by simp [tks]
theorem costs_tks (sz : Int → Nat) {d : DIR} (hn : (d.map (·.1)).Nodup) : costs sz d = tks (fun k => (sz k + 63) / 64) d := by
  rw [costs, tks, List.map_map]
  congr 1
  refine List.map_congr_left fun p hp => ?_
  show cost sz d p.1 = _
  rw [cost, asc_mem hn (x := p.1) (u := p.2) hp]; rfl
theorem DS.used_tks {s : DS} (h : s.Ok) : s.used = tks (fun k => (flen s.fs k + 63) / 64) s.dir := costs_tks _ h.nd
theorem tks_del (f : Int → Nat) (x : ByteArray) : ∀ d : DIR, tks f (del x d) + ((asc x d).map f).getD 0 = tks f d
  | [] => rfl
  | (a, u) :: d => by
    rw [del, asc]
    by_cases h : x = a
    · rw [if_pos h, if_pos h, tks_cons]; show _ + f u = _; simp only []; omega
    · rw [if_neg h, if_neg h, tks_cons, tks_cons]
      have := tks_del f x d
      simp only []; omega
theorem tks_put (f : Int → Nat) (x : ByteArray) (k : Int) : ∀ d : DIR, tks f (put x k d) ≤ tks f d + f k
  | [] => by simp [put, tks]
  | (a, u) :: d => by
    rw [put]
    by_cases h : x = a
    · rw [if_pos h, tks_cons, tks_cons]; simp only []; omega
    · rw [if_neg h, tks_cons, tks_cons]
      have := tks_put f x k d
      simp only []; omega
theorem tks_congr {f g : Int → Nat} {d : DIR} (h : ∀ p, p ∈ d → f p.2 = g p.2) : tks f d = tks g d := by
  rw [tks, tks, List.map_congr_left h]
theorem tks_one {f g : Int → Nat} {k : Int} (h : ∀ j, j ≠ k → f j = g j) : ∀ {d : DIR}, (d.map (·.2)).Nodup → ∀ x, asc x d = some k → tks f d + g k = tks g d + f k
  | [], _, x, hx => by cases hx
  | (a, u) :: d, hn, x, hx => by
    obtain ⟨h1, h2⟩ := List.nodup_cons.1 (by simpa using hn : (u :: d.map (·.2)).Nodup)
    rw [asc] at hx
    rw [tks_cons, tks_cons]
    by_cases hxa : x = a
    · rw [if_pos hxa] at hx
      cases hx
      have : tks f d = tks g d := tks_congr fun p hp => h p.2 fun e => h1 (List.mem_map.2 ⟨p, hp, e⟩)
      simp only []; omega
    · rw [if_neg hxa] at hx
      have hk : k ∈ d.map (·.2) := List.mem_map.2 ⟨_, asc_some hx, rfl⟩
      have := h u fun e => h1 (e ▸ hk)
      have := tks_one h h2 x hx
      simp only []; omega
theorem flen_set (fs : List FILE) (k : Nat) (f : FILE) (j : Int) (hj : 0 ≤ j) (hk : k < fs.length) : flen (fs.set k f) j = if j.toNat = k then f.1.length else flen fs j := by
  rw [flen, flen, List.getD_eq_getElem?_getD, List.getD_eq_getElem?_getD]
  by_cases e : j.toNat = k
  · rw [if_pos e, e, List.getElem?_set_self hk]; rfl
  · rw [if_neg e, List.getElem?_set_ne (fun h => e h.symm)]
def DS.Fits (r : Int) (s : DS) : Prop := s.rm = r ∧ (s.used : Int) ≤ r
section
variable {s : DS} {r : Int}
theorem DS.Fits.did (h : s.Fits r) : s.did.Fits r := h
theorem Fits_new {r : Int} (h : 1 ≤ r) : (DS.mk0 r [] [] []).Fits r := ⟨rfl, by show ((0 : Nat) : Int) ≤ r; omega⟩
theorem DS.Fits.fuse (h : s.Fits r) (n : Int) : (s.fuse n).2.Fits r := by
  rw [DS.fuse]; split
  · exact h
  · exact h
theorem DS.Fits.delete (h : s.Fits r) (hi : s.Inv) (nm : ByteArray) : (s.delete nm).2.Fits r := by
  have hi2 := hi.delete nm
  rw [DS.delete] at hi2 ⊢; split
  · exact h
  · rename_i hd
    split
    · exact h
    · rename_i hn
      rw [if_neg hd, if_neg hn] at hi2
      refine ⟨h.1, ?_⟩
      have h2 := h.2
      rw [DS.used_tks hi.ok] at h2
      rw [DS.used_tks hi2.ok]
      show ((tks (fun k => (Go.Proofs.YtbljooblpfdbiaaGreatDoor.flen s.fs k + 63) / 64) (trn (nm, ⟨#[]⟩, 0) s.dir) : Nat) : Int) ≤ r
      rw [trn_eq, if_pos rfl]
      split
      · exact h2
      · have := tks_del (fun k => (Go.Proofs.YtbljooblpfdbiaaGreatDoor.flen s.fs k + 63) / 64) nm s.dir
        have e : del ((nm, (⟨#[]⟩ : ByteArray), (0 : Int)) : CHG).1 s.dir = del nm s.dir := rfl
        rw [e]; omega
theorem DS.Fits.create (h : s.Fits r) (hi : s.Inv) (nm : ByteArray) : (s.create nm).2.Fits r := by
  have hi2 := hi.create nm
  rw [DS.create] at hi2 ⊢; split
  · exact h
  · rename_i h1; split
    · exact h
    · rename_i h2; split
      · exact h
      · rename_i h3; split
        · exact h
        · rename_i h4
          rw [if_neg h1, if_neg h2, if_neg h3, if_neg h4] at hi2
          refine ⟨h.1, ?_⟩
          have hu := h.2
          rw [DS.used_tks hi.ok] at hu
          rw [DS.used_tks hi2.ok]
          have hrn : nm ≠ ⟨#[]⟩ := by
            cases hq : rightN nm with
            | false => exact absurd hq h2
            | true => rw [rightN] at hq; exact (of_decide_eq_true hq).1
          show ((tks (fun k => (Go.Proofs.YtbljooblpfdbiaaGreatDoor.flen (s.fs ++ [([], [])]) k + 63) / 64) (trn (⟨#[]⟩, nm, (s.fs.length : Int)) s.dir) : Nat) : Int) ≤ r
          rw [trn_eq, if_neg hrn, if_pos rfl]
          have a1 := tks_put (fun k => (Go.Proofs.YtbljooblpfdbiaaGreatDoor.flen (s.fs ++ [([], [])]) k + 63) / 64) nm (s.fs.length : Int) s.dir
          have a2 : tks (fun k => (Go.Proofs.YtbljooblpfdbiaaGreatDoor.flen (s.fs ++ [([], [])]) k + 63) / 64) s.dir = tks (fun k => (Go.Proofs.YtbljooblpfdbiaaGreatDoor.flen s.fs k + 63) / 64) s.dir := tks_congr fun p hp => by
            have := hi.ok.dir p hp
            rw [Go.Proofs.YtbljooblpfdbiaaGreatDoor.flen, Go.Proofs.YtbljooblpfdbiaaGreatDoor.flen, List.getD_eq_getElem?_getD, List.getD_eq_getElem?_getD, List.getElem?_append_left Zz]
          have a3 : (Go.Proofs.YtbljooblpfdbiaaGreatDoor.flen (s.fs ++ [([], [])]) (s.fs.length : Int) + 63) / 64 = 0 := by
            rw [Go.Proofs.YtbljooblpfdbiaaGreatDoor.flen, List.getD_eq_getElem?_getD, Int.toNat_natCast, List.getElem?_append_right (Nat.le_refl _), Nat.sub_self]; rfl
          simp only [a3] at a1
          have e : put ((⟨#[]⟩, nm, (s.fs.length : Int)) : CHG).2.1 ((⟨#[]⟩, nm, (s.fs.length : Int)) : CHG).2.2 s.dir = put nm (s.fs.length : Int) s.dir := rfl
          rw [e]; omega
theorem fits_set {f : FILE} {k : Int} {nm : ByteArray} (hi : s.Inv) (ha : asc nm s.dir = some k) (h : ((s.used + (f.1.length + 63) / 64 : Nat) : Int) ≤ r + (((Go.Proofs.YtbljooblpfdbiaaGreatDoor.flen s.fs k + 63) / 64 : Nat) : Int)) : ((tks (fun j => (Go.Proofs.YtbljooblpfdbiaaGreatDoor.flen (s.fs.set k.toNat f) j + 63) / 64) s.dir : Nat) : Int) ≤ r := by
  obtain ⟨hk, hk2, _⟩ := hi.ok.dir _ (asc_some ha)
  have hk : 0 ≤ k := hk
  have hk2 : k < s.fs.length := hk2
  rw [DS.used_tks hi.ok] at h
  have hg : tks (fun j => (Go.Proofs.YtbljooblpfdbiaaGreatDoor.flen (s.fs.set k.toNat f) j + 63) / 64) s.dir = tks (fun j => if j = k then (f.1.length + 63) / 64 else (Go.Proofs.YtbljooblpfdbiaaGreatDoor.flen s.fs j + 63) / 64) s.dir := tks_congr fun p hp => by
    have hp0 := (hi.ok.dir p hp).1
    rw [flen_set _ _ _ _ hp0 Zz]
    by_cases e : p.2 = k
    · rw [if_pos (by rw [e]), if_pos e]
    · rw [if_neg Zz, if_neg e]
  rw [hg]
  have := tks_one (f := fun j => if j = k then (f.1.length + 63) / 64 else (Go.Proofs.YtbljooblpfdbiaaGreatDoor.flen s.fs j + 63) / 64) (g := fun j => (Go.Proofs.YtbljooblpfdbiaaGreatDoor.flen s.fs j + 63) / 64) (k := k) (fun j hj => if_neg hj) hi.vals nm ha
  simp only [if_true] at this
  omega
theorem DS.Fits.sync (h : s.Fits r) (hi : s.Inv) (nm : ByteArray) : (s.sync nm).2.Fits r := by
  have hi2 := hi.sync nm
  rw [DS.sync] at hi2 ⊢; split
  · exact h
  · rename_i h1
    rw [if_neg h1] at hi2
    cases ha : asc nm s.dir with
    | none => exact h
    | some k =>
      rw [ha] at hi2
      refine ⟨h.1, ?_⟩
      rw [DS.used_tks hi2.ok]
      refine fits_set (k := k) hi ha ?_
      have := h.2
      have e : (fat s.fs k).1.length = Go.Proofs.YtbljooblpfdbiaaGreatDoor.flen s.fs k := rfl
      simp only [e]; omega
theorem DS.Fits.write (h : s.Fits r) (hi : s.Inv) (nm : ByteArray) (a : Int) (x : List UInt8) : (s.write nm a x).2.Fits r := by
  have hi2 := hi.write nm a x
  rw [DS.write] at hi2 ⊢; split
  · exact h
  · rename_i h1
    rw [if_neg h1] at hi2
    cases ha : asc nm s.dir with
    | none => exact h
    | some k =>
      rw [ha] at hi2
      simp only at hi2 ⊢
      split
      · exact h
      · rename_i h2
        rw [if_neg h2] at hi2
        split
        · exact h
        · rename_i h3
          rw [if_neg h3] at hi2
          split
          · exact h
          · rename_i h4
            rw [if_neg h4] at hi2
            refine ⟨h.1, ?_⟩
            rw [DS.used_tks hi2.ok]
            refine fits_set (k := k) hi ha ?_
            have hr := h.1
            have e : (fat s.fs k).1.length = Go.Proofs.YtbljooblpfdbiaaGreatDoor.flen s.fs k := rfl
            simp only [secs] at h4
            rw [e] at h4 h2
            simp only []
            rw [wrt_len _ _ _ (by rw [e]; omega), e]
            omega
end
theorem sortB_perm {a b : List ByteArray} (h : a.Perm b) : sortB a = sortB b := by
  rw [sortB, sortB]
  congr 1
  have hp : (a.map fun s => s.data.toList).Perm (b.map fun s => s.data.toList) := h.map _
  have hs := fun l : List (List UInt8) => List.pairwise_mergeSort (le := fun x y : List UInt8 => decide (x ≤ y)) (by intro a b c; simp only [decide_eq_true_eq]; exact fun h1 h2 => List.le_trans h1 h2) (by intro a b; simp only [Bool.or_eq_true, decide_eq_true_eq]; exact List.le_total a b) l
  refine List.Perm.eq_of_pairwise (le := fun x y => decide (x ≤ y) = true) ?_ (hs _) (hs _) (((List.mergeSort_perm _ _).trans hp).trans (List.mergeSort_perm _ _).symm)
  intro x y _ _ h1 h2
  exact List.le_antisymm (of_decide_eq_true h1) (of_decide_eq_true h2)
def KEn : Kd (ByteArray × Int) := Kd.plain 2 (fun x => [.string x.1, .int .i64 x.2]) (fun _ => True) (fun _ => rfl) (fun _ u hu => by simp at hu; rcases hu with rfl | rfl <;> rfl)
theorem KEn_flat : Flat KEn := fun h => h
abbrev evEn (c : ByteArray × Int) : Value := .agg #[.string c.1, .int .i64 c.2]
theorem repsEn {w : World} (x : ByteArray × Int) : RepsV KEn w [x] [evEn x] := ⟨⟨_, rfl, rfl, trivial⟩, trivial⟩
theorem EEn : ElemInfo Tryz.prog 192 2 24 := ElemInfo.of (z := .agg #[.string ⟨#[]⟩, .int .i64 0]) Zl rfl rfl rfl
theorem ERc : ElemInfo Tryz.prog 150 3 40 := ElemInfo.of (z := .agg #[.string ⟨#[]⟩, .string ⟨#[]⟩, .int .i64 0]) Zl rfl rfl rfl
theorem EIr : ElemInfo Tryz.prog 3 1 8 := ElemInfo.of (z := .int .i64 0) Zl rfl rfl rfl
theorem rget {α : Type} {l : List α} {n : Nat} (i : Nat) (h : l.length = n) (hi : i < n) : ∃ x, l[i]? = some x := ⟨l[i]'Zz, List.getElem?_eq_getElem Zz⟩
theorem rdrop {α : Type} {l : List α} {i : Nat} {x : α} (h : l[i]? = some x) : l.drop i = x :: l.drop (i + 1) := by
  obtain ⟨h1, h2⟩ := List.getElem?_eq_some_iff.1 h
  rw [List.drop_eq_getElem_cons h1, h2]
theorem rtake {α : Type} {l : List α} {i : Nat} {x : α} (h : l[i]? = some x) : l.take (i + 1) = l.take i ++ [x] := by
  obtain ⟨h1, h2⟩ := List.getElem?_eq_some_iff.1 h
  rw [List.take_add_one, h]; rfl
def isNm (s : ByteArray) : Bool := decide (1 ≤ s.size ∧ s.size ≤ 64)
def rfind (nm : ByteArray) (l : DIR) : Int := (asc nm l).getD (-1)
def sless (a b : ByteArray) : Bool := Op.bytesLess a.data.toList b.data.toList
def rwo (nm : ByteArray) (l : DIR) : DIR := l.filter fun p => decide (p.1 ≠ nm)
def rins (e : ByteArray × Int) (l : DIR) : DIR := l.takeWhile (fun p => sless p.1 e.1) ++ [e] ++ l.dropWhile (fun p => sless p.1 e.1)
def rwith (e : ByteArray × Int) (l : DIR) : DIR := rins e (rwo e.1 l)
theorem cut_at {α : Type} (f : α → Bool) : ∀ {l : List α} {k : Nat}, (∀ j x, j < k → l[j]? = some x → f x = true) → (∀ x, l[k]? = some x → f x = false) → k ≤ l.length → l.takeWhile f = l.take k ∧ l.dropWhile f = l.drop k
  | [], k, _, _, _ => by simp
  | x :: l, 0, _, h2, _ => by
    have := h2 x rfl
    simp [this]
  | x :: l, k + 1, h1, h2, h3 => by
    have hx := h1 0 x Zz rfl
    obtain ⟨e1, e2⟩ := cut_at f (l := l) (k := k) (fun j y hj hy => h1 (j + 1) y Zz hy) (fun y hy => h2 y hy) (by simp at h3; omega)
    rw [List.takeWhile_cons, hx, List.dropWhile_cons, hx]; simp [e1, e2]
def lput (n : Int) (l : List Int) : List Int := if (l.dropWhile fun x => decide (x < n)).head? = some n then l else l.takeWhile (fun x => decide (x < n)) ++ [n] ++ l.dropWhile (fun x => decide (x < n))
theorem IsName_c (s : ByteArray) (w : World) : Ret Tryz.prog 74 #[.string s] w fun r w' => r = .bool (isNm s) ∧ Keep w w' := by
 refine X.enter Zf74 rfl Tryz.ntmps74 rfl<|Zs<|Zr<|Zoa rfl rfl<|Ze<|Zs<|Zr<|Zomg rfl rfl<|Zo (X.lenS Zu9 rfl) rfl<|X.opP X.wN rfl rfl (X.geq rfl rfl) (fun h5 => ?_) (fun h5 => ?_)
 ·refine Zomt rfl rfl<|Zg (Zdmg rfl) rfl rfl rfl rfl<|Zg (X.lenS Zu9 rfl) rfl rfl rfl rfl<|Zg (X.leq rfl rfl) rfl rfl rfl rfl<|Zo (ZdTo rfl rfl) rfl<|Zoao rfl rfl<|Ze<|X.ret1 (v := (.bool _)) Zf74 Tryz.results74 rfl ?_
  exact ⟨by rw [isNm]; congr 1; exact decide_eq_decide.2 (by constructor <;> intro _ <;> omega), (Keep.refl _)⟩
 ·refine Zomf rfl rfl<|Zp rfl rfl rfl<|Zp rfl rfl rfl<|Zp rfl rfl rfl<|Zo (ZdFf rfl rfl) rfl<|Zoaf rfl rfl<|Ze<|X.ret1 (v := (.bool _)) Zf74 Tryz.results74 rfl ?_
  exact ⟨by rw [isNm]; congr 1; exact (decide_eq_false Zz).symm, (Keep.refl _)⟩
theorem Find_c {lo hi n c : Nat} {A : Option Addr} {l : DIR} (nm : ByteArray) (w : World) (hs : Sl KEn lo hi w A n l) (hn : n ≤ 1000000) : Ret Tryz.prog 75 #[.slice A n c, .string nm] w fun r w' => r = .int .i64 (rfind nm l) ∧ Keep w w' := by
 have hl := hs.len
 refine X.enter Zf75 rfl Tryz.ntmps75 rfl<|Zs<|Zr<|Zoa rfl rfl<|Ze<|Zs<|Zs<|Zr<|Zoa rfl rfl<|Ze<|Zb<|X.loopL (σ := Nat) (fun s => [(0, .slice A n c), (1, .string nm), (5, .int .i64 (s : Int))]) (fun s w' => s ≤ n ∧ asc nm l = asc nm (l.drop s) ∧ Keep w w') (fun s => n - s) 0 ⟨rfl, rfl, rfl, trivial⟩ ⟨Nat.zero_le _, rfl, (Keep.refl _)⟩ ?_
 rintro i b0 wl ⟨hi, hna, hk⟩ hback
 have hk' := hk.size
 refine Zs<|Zs<|Zr<|Zomi rfl rfl<|Zoms rfl rfl<|Zo (X.lenSl Zu131 rfl) rfl<|X.opP X.wN rfl rfl (X.lss rfl rfl) (fun h9 => ?_) (fun h9 => ?_)
 ·obtain ⟨x, hx⟩ := rget i hl Zz
  have hdr := rdrop hx
  refine Ze<|Zt rfl<|Zk<|Zs<|Zb<|Zs<|Zr<|Zoms rfl rfl<|Zomi rfl rfl<|Zo (X.idxS (hs.keep hk) Zu131 Zs192 rfl rfl ⟨by omega, by omega⟩) rfl<|Zo (X.fldA Zu192 rfl rfl Zs9) rfl<|Zo (X.loadSf Zi9 (hs.keep hk) hx rfl (fun _ h => by rw [h.1]; rfl)) rfl ?_
  refine Zomg rfl rfl<|X.opP X.wN rfl rfl (X.eqD rfl rfl) (fun h18 => ?_) (fun h18 => ?_)
  ·refine Ze<|Zt rfl<|Zs<|Zr<|Zoms rfl rfl<|Zomi rfl rfl<|Zo (X.idxS (hs.keep hk) Zu131 Zs192 rfl rfl ⟨by omega, by omega⟩) rfl<|Zo (X.fldA Zu192 rfl rfl Zs3) rfl<|Zo (X.loadSf Zi3 (hs.keep hk) hx rfl (fun _ h => by rw [h.1]; rfl)) rfl ?_
   refine Zoai rfl rfl<|Ze<|X.ret1 (v := (.int .i64 _)) Zf75 Tryz.results75 rfl ?_
   exact ⟨by rw [rfind, hna, hdr, asc, if_pos h18.symm]; rfl, hk⟩
  ·refine Ze<|Zf rfl<|Zk<|Zi<|Zr<|Zomi rfl rfl<|Zo (X.add rfl rfl (X.w_i64 Zz)) rfl<|Zoai rfl rfl<|Ze ?_
   refine hback (i + 1) _ _ ⟨rfl, rfl, rfl, trivial⟩ ⟨by omega, by rw [hna, hdr, asc, if_neg (fun e => h18 e.symm)], hk⟩ Zz
 ·refine Ze<|Zf rfl<|Zx rfl<|Zs<|Zr<|Zoa rfl rfl<|Ze<|X.ret1 (v := (.int .i64 _)) Zf75 Tryz.results75 rfl ?_
  exact ⟨by rw [rfind, hna, List.drop_eq_nil_of_le Zz]; rfl, hk⟩
theorem without_c {lo hi n c : Nat} {A : Option Addr} {l : DIR} (nm : ByteArray) (w : World) (hs : Sl KEn lo hi w A n l) (hn : n ≤ 100000) : Ret Tryz.prog 152 #[.slice A n c, .string nm] w fun r w' => Mine KEn 192 (fun k => w.heap.size ≤ k) 0 0 w' r (rwo nm l) ∧ Keep w w' := by
 have hl := hs.len
 refine X.enter Tryz.func152 rfl Tryz.ntmps152 rfl<|Zs<|Zr<|Zoa rfl rfl<|Ze<|Zs<|Zr<|Zoa rfl rfl<|Ze<|Zs<|Zs<|Zr<|Zoa rfl rfl<|Ze<|Zb<|X.loopL (σ := Nat × Value) (fun s => [(0, .slice A n c), (1, .string nm), (5, s.2), (6, .int .i64 (s.1 : Int))]) (fun s w' => s.1 ≤ n ∧ Mine KEn 192 (fun k => w.heap.size ≤ k) 0 0 w' s.2 (rwo nm (l.take s.1)) ∧ Keep w w') (fun s => n - s.1) (0, _) ⟨rfl, rfl, rfl, rfl, trivial⟩ ⟨Nat.zero_le _, Mine.nil _ _ _ _ _ _, (Keep.refl _)⟩ ?_
 rintro ⟨i, v⟩ b0 wl ⟨hi, hMo, hk⟩ hback
 dsimp only
 simp only at hi hMo
 have hk' := hk.size
 have hfl : (rwo nm (l.take i)).length ≤ i := Nat.le_trans (List.length_filter_le _ _) (by rw [List.length_take]; omega)
 refine Zs<|Zs<|Zr<|Zomi rfl rfl<|Zoms rfl rfl<|Zo (X.lenSl Zu131 rfl) rfl<|X.opP X.wN rfl rfl (X.lss rfl rfl) (fun h10 => ?_) (fun h10 => ?_)
 ·obtain ⟨x, hx⟩ := rget i hl Zz
  have hdr := rtake hx
  refine Ze<|Zt rfl<|Zk<|Zs<|Zb<|Zs<|Zr<|Zoms rfl rfl<|Zomi rfl rfl<|Zo (X.idxS (hs.keep hk) Zu131 Zs192 rfl rfl ⟨by omega, by omega⟩) rfl<|Zo (X.fldA Zu192 rfl rfl Zs9) rfl<|Zo (X.loadSf Zi9 (hs.keep hk) hx rfl (fun _ h => by rw [h.1]; rfl)) rfl ?_
  refine Zomg rfl rfl<|X.opP X.wN rfl rfl (X.neD rfl rfl) (fun h19 => ?_) (fun h19 => ?_)
  ·refine Ze<|Zt rfl<|Zr<|Zom rfl rfl<|Zoms rfl rfl<|Zomi rfl rfl<|Zo (X.idxS (hs.keep hk) Zu131 Zs192 rfl rfl ⟨by omega, by omega⟩) rfl<|Zo (X.loadSN Zi192 Zs192 (hs.keep hk) hx rfl (fun _ h => h.1) rfl) rfl<|Zc (X.litKF KEn_flat (K := KEn) (xs := [Operand.tmp 24]) (vs := [evEn x]) (ys := [x]) Zu131 Zs192 Zv192 rfl rfl rfl rfl rfl (repsEn _)) rfl ?_
   rintro _ w1 ⟨rfl, hs1, hB1, hk1, hz1⟩
   refine Zc (X.appE (K := KEn) (S := fun k => w.heap.size ≤ k) KEn_flat Zu131 EEn rfl rfl (hMo.keep hk1) hs1 zq15 zq34) rfl ?_
   rintro v2 w2 ⟨hM2, hx2⟩
   have hx2' := hx2.size
   refine Zoa rfl rfl<|Ze<|Zi<|Zr<|Zomi rfl rfl<|Zo (X.add rfl rfl (X.w_i64 Zz)) rfl<|Zoai rfl rfl<|Ze ?_
   refine hback (i + 1, _) _ _ ⟨rfl, rfl, rfl, rfl, trivial⟩ ⟨by dsimp only; omega, by dsimp only; rw [hdr, rwo, List.filter_append, List.filter_cons_of_pos (by simpa using h19), List.filter_nil]; exact hM2, ((hk.trans hk1).step hx2 zq34)⟩ (by dsimp only; omega)
  ·refine Ze<|Zf rfl<|Zk<|Zi<|Zr<|Zomi rfl rfl<|Zo (X.add rfl rfl (X.w_i64 Zz)) rfl<|Zoai rfl rfl<|Ze ?_
   refine hback (i + 1, _) _ _ ⟨rfl, rfl, rfl, rfl, trivial⟩ ⟨by dsimp only; omega, by dsimp only; rw [hdr, rwo, List.filter_append, List.filter_cons_of_neg (by simpa using h19), List.filter_nil, List.append_nil]; exact hMo, hk⟩ (by dsimp only; omega)
 ·refine Ze<|Zf rfl<|Zx rfl<|Zs<|Zr<|Zom rfl rfl<|Zoa rfl rfl<|Ze<|X.ret1 Tryz.func152 Tryz.results152 rfl ?_
  rw [List.take_of_length_le Zz] at hMo
  exact ⟨hMo, hk⟩
theorem with_c {lo hi n c : Nat} {A : Option Addr} {l : DIR} (nm : ByteArray) (k : Int) (w : World) (hs : Sl KEn lo hi w A n l) (hn : n ≤ 100000) : Ret Tryz.prog 153 #[.slice A n c, .agg #[.string nm, .int .i64 k]] w fun r w' => Mine KEn 192 (fun k => w.heap.size ≤ k) 0 0 w' r (rwith (nm, k) l) ∧ Keep w w' := by
 have hl := hs.len
 refine X.enter Zf153 rfl Tryz.ntmps153 rfl<|Zs<|Zr<|Zc (X.boxE rfl rfl) rfl ?_
 rintro _ w1 ⟨rfl, hB1, hk1, hz1⟩
 refine Zoa rfl rfl<|Ze<|Zs<|Zr<|Zoms rfl rfl<|Zo (X.fldB (j := 0) Zu192 rfl rfl Zs9 rfl) rfl<|Zo (X.load1B Zi9 hB1 rfl rfl) rfl<|Zc (X.callE (without_c _ _ (hs.keep hk1) Zz) Tryz.call152 rfl rfl) rfl ?_
 rintro v2 w2 ⟨hM2, hk2⟩
 have hk2' := hk2.size
 refine Zoa rfl rfl<|Ze<|Zs<|Zr<|Zoa rfl rfl<|Ze<|Zs<|Zb ?_
 obtain ⟨L, hL⟩ : ∃ L, L = rwo nm l := ⟨_, rfl⟩
 have hM9 := hM2
 rw [← hL] at hM9
 obtain ⟨A9, c9, rfl, hc9, hs9⟩ := hM9.slF KEn_flat w.heap.size (fun _ h => by omega)
 have hLl : L.length ≤ n := by rw [hL, rwo, ← hl]; exact List.length_filter_le _ _
 have hB9 := (hB1.keep hk2)
 have hkA := (hk1.trans hk2)
 refine X.loopL (σ := Nat) (fun s => [(0, .slice A9 L.length c9), (3, .pointer (some ⟨w.heap.size, 0, none⟩)), (5, .int .i64 (s : Int))]) (fun s w' => s ≤ L.length ∧ (∀ j x, j < s → L[j]? = some x → sless x.1 nm = true) ∧ Keep w2 w') (fun s => L.length - s) 0 ⟨rfl, rfl, rfl, trivial⟩ ⟨Nat.zero_le _, fun j x h => by omega, Keep.refl _⟩ ?_
 rintro i b0 wl ⟨hi, hlt, hk⟩ hback
 have hk' := hk.size
 refine Zs<|Zs<|X.regionD (fun k => wl.heap.size ≤ k) 14 Zl Zl (fun w3 hk3 hz3 => ?_)
 refine ZDc 0 rfl Zl (Zdmi rfl)<|ZDc 1 rfl Zl (Zdms rfl)<|ZDc 2 rfl Zl (X.lenSl Zu131 rfl)<|ZDc 3 rfl Zl (X.lss rfl rfl)<|ZDc 4 rfl Zl (Zdmo rfl)<|X.dFork 14 rfl (fun h14 => ?_) (fun h14 => ?_)
 ·have h14' := of_decide_eq_true h14
  obtain ⟨x, hx⟩ := rget i rfl (show i < L.length by omega)
  refine ZG 5 rfl rfl rfl Zl (fun w' hk' => Zdms rfl)<|ZG 6 rfl rfl rfl Zl (fun w' hk' => Zdmi rfl)<|ZG 7 rfl rfl rfl Zl (fun w' hk' => X.idxS (hs9.keep ((hk.trans hk3).step hk' zq34)) Zu131 Zs192 rfl rfl ⟨by omega, by omega⟩) ?_
  refine ZG 8 rfl rfl rfl Zl (fun w' hk' => X.fldA Zu192 rfl rfl Zs9)<|ZG 9 rfl rfl rfl Zl (fun w' hk' => X.loadSf Zi9 (hs9.keep ((hk.trans hk3).step hk' zq34)) hx rfl (fun _ h => by rw [h.1]; rfl)) ?_
  refine ZG 10 rfl rfl rfl Zl (fun w' hk' => X.fldB (j := 0) Zu192 rfl rfl Zs9 rfl)<|ZG 11 rfl rfl rfl Zl (fun w' hk' => X.load1B Zi9 (hB9.keep ((hk.trans hk3).step hk' zq34)) rfl rfl) ?_
  refine ZG 12 rfl rfl rfl Zl (fun w' hk' => X.ltD rfl rfl)<|ZDc 13 rfl Zl (ZdTo rfl rfl)<|Zdend Zl<|X.condB rfl (fun hc => ?_) (fun hc => ?_)
  ·refine Zk<|Zb<|Zr<|Zomi rfl rfl<|Zo (X.add rfl rfl (X.w_i64 Zz)) rfl<|Zoai rfl rfl<|Ze<|Zi ?_
   refine hback (i + 1) _ _ ⟨rfl, rfl, rfl, trivial⟩ ⟨by omega, fun j y hj hy => by
               rcases Nat.lt_or_ge j i with h | h
               ·exact hlt j y h hy
               ·rw [show j = i by omega, hx] at hy; cases hy; exact hc, (hk.trans hk3)⟩ Zz
  ·refine Zx rfl<|Zs<|X.regionD (fun k => w3.heap.size ≤ k) 12 Zl Zl (fun w4 hk4 hz4 => ?_)
   refine ZDc 1 rfl Zl (Zdms rfl)<|ZDc 2 rfl Zl (Zdmi rfl)<|ZDc 3 rfl Zl (X.cutHr Zu131 Zs192 rfl rfl Zz)<|ZD 5 rfl Zl (fun w' hk' => X.loadNB Zi192 Zs192 (hB9.keep (((hk.trans hk3).trans hk4).step hk' zq34)) rfl rfl rfl) ?_
   refine ZDc 8 rfl Zl (Zdms rfl)<|ZDc 9 rfl Zl (Zdmi rfl)<|ZDc 10 rfl Zl (X.cutL Zu131 Zs192 rfl rfl Zz) ?_
   refine X.dTwo (i := 0) (j := 6) Zl ?_ ?_
   ·refine X.d1E (i := 0) rfl (X.dwN rfl) (X.lit0E (K := KEn) (S := fun k => w4.heap.size ≤ k) Zu131 Zs192 zq34) (by rintro v5 w5 ⟨hM5, hk5, hz5⟩ _; exact hk5.mono (fun _ _ h => h.elim)) ?_
    rintro v5 w5 ⟨hM5, hk5, hz5⟩
    refine X.dTwo (i := 4) (j := 6) Zl ?_ ?_
    ·refine X.d1E (i := 4) rfl (X.dwN rfl) (X.appE (K := KEn) (S := fun k => w4.heap.size ≤ k) KEn_flat Zu131 EEn rfl rfl hM5 ((hs9.take _ Zz).keep (((hk.trans hk3).trans hk4).trans hk5)) zq15 zq34) (by rintro v6 w6 ⟨hM6, hx6⟩ _; exact hx6.mono (fun k _ h => by (try simp only [] at *); omega)) ?_
     rintro v6 w6 ⟨hM6, hx6⟩
     have hx6' := hx6.size
     refine X.dE (i := 6) Zl rfl (X.dwN rfl) (X.litKF KEn_flat (K := KEn) (xs := [Operand.tmp 31]) (vs := [evEn (nm, k)]) (ys := [(nm, k)]) Zu131 Zs192 Zv192 rfl rfl rfl rfl rfl (repsEn _)) (by rintro _ w7 ⟨rfl, hs7, hB7, hk7, hz7⟩ _; exact hk7.mono (fun _ _ h => h.elim)) ?_
     rintro _ w7 ⟨rfl, hs7, hB7, hk7, hz7⟩
     refine X.dE (i := 7) Zl rfl (X.dwN rfl) (X.appE (K := KEn) (S := fun k => w4.heap.size ≤ k) KEn_flat Zu131 EEn rfl rfl (Mine.mono (T := fun k => w4.heap.size ≤ k) (hM6.keep hk7) (fun k h1 h2 => by (try simp only [] at *); omega)) hs7 zq15 zq34) (by rintro v8 w8 ⟨hM8, hx8⟩ _; exact hx8.mono (fun k _ h => by (try simp only [] at *); omega)) ?_
     rintro v8 w8 ⟨hM8, hx8⟩
     have hx8' := hx8.size
     refine X.dE (i := 11) Zl rfl (X.dwN rfl) (X.appE (K := KEn) (S := fun k => w4.heap.size ≤ k) KEn_flat Zu131 EEn rfl rfl (Mine.mono (T := fun k => w4.heap.size ≤ k) hM8 (fun k h1 h2 => by (try simp only [] at *); omega)) ((hs9.drop _ _ Zz Zz).keep ((((((hk.trans hk3).trans hk4).trans hk5).step hx6 zq34).trans hk7).step hx8 zq34)) zq15 zq34) (by rintro v9 w9 ⟨hM9, hx9⟩ _; exact hx9.mono (fun k _ h => by (try simp only [] at *); omega)) ?_
     rintro v9 w9 ⟨hM9, hx9⟩
     have hx9' := hx9.size
     refine X.dStep (i := 12) Zl rfl (X.dwN rfl) (X.assign rfl) (fun h => absurd h (by decide))<|Zdend Zl<|X.ret1 Zf153 Zr153 rfl ?_
     have hcut := cut_at (fun p : ByteArray × Int => sless p.1 nm) (l := L) (k := i) (fun j y hj hy => hlt j y hj hy) (fun y hy => by first | (rw [hx] at hy; cases hy; exact hc) | (rw [List.getElem?_eq_none Zz] at hy; cases hy)) Zz
     exact ⟨by rw [rwith, ← hL, rins, hcut.1, hcut.2]; exact (hM9).mono (fun q _ h => by (try simp only at h); omega), hkA.trans (((((((hk.trans hk3).trans hk4).trans hk5).step hx6 zq34).trans hk7).step hx8 zq34).step hx9 zq34)⟩
    ·refine X.d1E (i := 6) rfl (X.dwN rfl) (X.litKF KEn_flat (K := KEn) (xs := [Operand.tmp 31]) (vs := [evEn (nm, k)]) (ys := [(nm, k)]) Zu131 Zs192 Zv192 rfl rfl rfl rfl rfl (repsEn _)) (by rintro _ w10 ⟨rfl, hs10, hB10, hk10, hz10⟩ _; exact hk10.mono (fun _ _ h => h.elim)) ?_
     rintro _ w10 ⟨rfl, hs10, hB10, hk10, hz10⟩
     refine X.dE (i := 4) Zl rfl (X.dwN rfl) (X.appE (K := KEn) (S := fun k => w4.heap.size ≤ k ∧ k ≠ w5.heap.size) KEn_flat Zu131 EEn rfl rfl ((Mine.mono (T := fun k => w4.heap.size ≤ k ∧ k ≠ w5.heap.size) hM5 (fun k h1 h2 => by (try simp only [] at *); omega)).keep hk10) ((hs9.take _ Zz).keep ((((hk.trans hk3).trans hk4).trans hk5).trans hk10)) zq15 zq34) (by rintro v11 w11 ⟨hM11, hx11⟩ _; exact hx11.mono (fun k _ h => by (try simp only [] at *); omega)) ?_
     rintro v11 w11 ⟨hM11, hx11⟩
     replace hM11 := Mine.mono (T := fun k => w4.heap.size ≤ k) hM11 (fun k _ h => by (try simp only [] at *); omega)
     have hx11' := hx11.size
     refine X.dE (i := 7) Zl rfl (X.dwN rfl) (X.appE (K := KEn) (S := fun k => w4.heap.size ≤ k) KEn_flat Zu131 EEn rfl rfl (Mine.mono (T := fun k => w4.heap.size ≤ k) hM11 (fun k h1 h2 => by (try simp only [] at *); omega)) (hs10.ext hx11 zq36) zq15 zq34) (by rintro v12 w12 ⟨hM12, hx12⟩ _; exact hx12.mono (fun k _ h => by (try simp only [] at *); omega)) ?_
     rintro v12 w12 ⟨hM12, hx12⟩
     have hx12' := hx12.size
     refine X.dE (i := 11) Zl rfl (X.dwN rfl) (X.appE (K := KEn) (S := fun k => w4.heap.size ≤ k) KEn_flat Zu131 EEn rfl rfl (Mine.mono (T := fun k => w4.heap.size ≤ k) hM12 (fun k h1 h2 => by (try simp only [] at *); omega)) ((hs9.drop _ _ Zz Zz).keep ((((((hk.trans hk3).trans hk4).trans hk5).trans hk10).step hx11 zq34).step hx12 zq34)) zq15 zq34) (by rintro v13 w13 ⟨hM13, hx13⟩ _; exact hx13.mono (fun k _ h => by (try simp only [] at *); omega)) ?_
     rintro v13 w13 ⟨hM13, hx13⟩
     have hx13' := hx13.size
     refine X.dStep (i := 12) Zl rfl (X.dwN rfl) (X.assign rfl) (fun h => absurd h (by decide))<|Zdend Zl<|X.ret1 Zf153 Zr153 rfl ?_
     have hcut := cut_at (fun p : ByteArray × Int => sless p.1 nm) (l := L) (k := i) (fun j y hj hy => hlt j y hj hy) (fun y hy => by first | (rw [hx] at hy; cases hy; exact hc) | (rw [List.getElem?_eq_none Zz] at hy; cases hy)) Zz
     exact ⟨by rw [rwith, ← hL, rins, hcut.1, hcut.2]; exact (hM13).mono (fun q _ h => by (try simp only at h); omega), hkA.trans (((((((hk.trans hk3).trans hk4).trans hk5).trans hk10).step hx11 zq34).step hx12 zq34).step hx13 zq34)⟩
   ·refine X.d1E (i := 6) rfl (X.dwN rfl) (X.litKF KEn_flat (K := KEn) (xs := [Operand.tmp 31]) (vs := [evEn (nm, k)]) (ys := [(nm, k)]) Zu131 Zs192 Zv192 rfl rfl rfl rfl rfl (repsEn _)) (by rintro _ w14 ⟨rfl, hs14, hB14, hk14, hz14⟩ _; exact hk14.mono (fun _ _ h => h.elim)) ?_
    rintro _ w14 ⟨rfl, hs14, hB14, hk14, hz14⟩
    refine X.dE (i := 0) Zl rfl (X.dwN rfl) (X.lit0E (K := KEn) (S := fun k => w14.heap.size ≤ k) Zu131 Zs192 zq34) (by rintro v15 w15 ⟨hM15, hk15, hz15⟩ _; exact hk15.mono (fun _ _ h => h.elim)) ?_
    rintro v15 w15 ⟨hM15, hk15, hz15⟩
    refine X.dE (i := 4) Zl rfl (X.dwN rfl) (X.appE (K := KEn) (S := fun k => w14.heap.size ≤ k) KEn_flat Zu131 EEn rfl rfl hM15 ((hs9.take _ Zz).keep ((((hk.trans hk3).trans hk4).trans hk14).trans hk15)) zq15 zq34) (by rintro v16 w16 ⟨hM16, hx16⟩ _; exact hx16.mono (fun k _ h => by (try simp only [] at *); omega)) ?_
    rintro v16 w16 ⟨hM16, hx16⟩
    have hx16' := hx16.size
    refine X.dE (i := 7) Zl rfl (X.dwN rfl) (X.appE (K := KEn) (S := fun k => w14.heap.size ≤ k) KEn_flat Zu131 EEn rfl rfl (Mine.mono (T := fun k => w14.heap.size ≤ k) hM16 (fun k h1 h2 => by (try simp only [] at *); omega)) (hs14.keep (hk15.step hx16 zq34)) zq15 zq34) (by rintro v17 w17 ⟨hM17, hx17⟩ _; exact hx17.mono (fun k _ h => by (try simp only [] at *); omega)) ?_
    rintro v17 w17 ⟨hM17, hx17⟩
    have hx17' := hx17.size
    refine X.dE (i := 11) Zl rfl (X.dwN rfl) (X.appE (K := KEn) (S := fun k => w14.heap.size ≤ k) KEn_flat Zu131 EEn rfl rfl (Mine.mono (T := fun k => w14.heap.size ≤ k) hM17 (fun k h1 h2 => by (try simp only [] at *); omega)) ((hs9.drop _ _ Zz Zz).keep ((((((hk.trans hk3).trans hk4).trans hk14).trans hk15).step hx16 zq34).step hx17 zq34)) zq15 zq34) (by rintro v18 w18 ⟨hM18, hx18⟩ _; exact hx18.mono (fun k _ h => by (try simp only [] at *); omega)) ?_
    rintro v18 w18 ⟨hM18, hx18⟩
    have hx18' := hx18.size
    refine X.dStep (i := 12) Zl rfl (X.dwN rfl) (X.assign rfl) (fun h => absurd h (by decide))<|Zdend Zl<|X.ret1 Zf153 Zr153 rfl ?_
    have hcut := cut_at (fun p : ByteArray × Int => sless p.1 nm) (l := L) (k := i) (fun j y hj hy => hlt j y hj hy) (fun y hy => by first | (rw [hx] at hy; cases hy; exact hc) | (rw [List.getElem?_eq_none Zz] at hy; cases hy)) Zz
    exact ⟨by rw [rwith, ← hL, rins, hcut.1, hcut.2]; exact (hM18).mono (fun q _ h => by (try simp only at h); omega), hkA.trans (((((((hk.trans hk3).trans hk4).trans hk14).trans hk15).step hx16 zq34).step hx17 zq34).step hx18 zq34)⟩
 ·have h14' := of_decide_eq_false h14
  refine X.dTakeS 5 rfl Zl Zl Zl rfl rfl rfl rfl<|X.dTakeS 6 rfl Zl Zl Zl rfl rfl rfl rfl<|X.dTakeS 7 rfl Zl Zl Zl rfl rfl rfl rfl<|X.dTakeS 8 rfl Zl Zl Zl rfl rfl rfl rfl<|X.dTakeS 9 rfl Zl Zl Zl rfl rfl rfl rfl<|ZS 10 Zl rfl rfl rfl<|ZS 11 Zl rfl rfl rfl<|ZS 12 Zl rfl rfl rfl<|ZDc 13 rfl Zl (ZdFf rfl rfl)<|Zdend Zl<|Zf rfl<|Zx rfl<|Zs<|X.regionD (fun k => w3.heap.size ≤ k) 12 Zl Zl (fun w19 hk19 hz19 => ?_)
  refine ZDc 1 rfl Zl (Zdms rfl)<|ZDc 2 rfl Zl (Zdmi rfl)<|ZDc 3 rfl Zl (X.cutHr Zu131 Zs192 rfl rfl Zz)<|ZD 5 rfl Zl (fun w' hk' => X.loadNB Zi192 Zs192 (hB9.keep (((hk.trans hk3).trans hk19).step hk' zq34)) rfl rfl rfl) ?_
  refine ZDc 8 rfl Zl (Zdms rfl)<|ZDc 9 rfl Zl (Zdmi rfl)<|ZDc 10 rfl Zl (X.cutL Zu131 Zs192 rfl rfl Zz) ?_
  refine X.dTwo (i := 0) (j := 6) Zl ?_ ?_
  ·refine X.d1E (i := 0) rfl (X.dwN rfl) (X.lit0E (K := KEn) (S := fun k => w19.heap.size ≤ k) Zu131 Zs192 zq34) (by rintro v20 w20 ⟨hM20, hk20, hz20⟩ _; exact hk20.mono (fun _ _ h => h.elim)) ?_
   rintro v20 w20 ⟨hM20, hk20, hz20⟩
   refine X.dTwo (i := 4) (j := 6) Zl ?_ ?_
   ·refine X.d1E (i := 4) rfl (X.dwN rfl) (X.appE (K := KEn) (S := fun k => w19.heap.size ≤ k) KEn_flat Zu131 EEn rfl rfl hM20 ((hs9.take _ Zz).keep (((hk.trans hk3).trans hk19).trans hk20)) zq15 zq34) (by rintro v21 w21 ⟨hM21, hx21⟩ _; exact hx21.mono (fun k _ h => by (try simp only [] at *); omega)) ?_
    rintro v21 w21 ⟨hM21, hx21⟩
    have hx21' := hx21.size
    refine X.dE (i := 6) Zl rfl (X.dwN rfl) (X.litKF KEn_flat (K := KEn) (xs := [Operand.tmp 31]) (vs := [evEn (nm, k)]) (ys := [(nm, k)]) Zu131 Zs192 Zv192 rfl rfl rfl rfl rfl (repsEn _)) (by rintro _ w22 ⟨rfl, hs22, hB22, hk22, hz22⟩ _; exact hk22.mono (fun _ _ h => h.elim)) ?_
    rintro _ w22 ⟨rfl, hs22, hB22, hk22, hz22⟩
    refine X.dE (i := 7) Zl rfl (X.dwN rfl) (X.appE (K := KEn) (S := fun k => w19.heap.size ≤ k) KEn_flat Zu131 EEn rfl rfl (Mine.mono (T := fun k => w19.heap.size ≤ k) (hM21.keep hk22) (fun k h1 h2 => by (try simp only [] at *); omega)) hs22 zq15 zq34) (by rintro v23 w23 ⟨hM23, hx23⟩ _; exact hx23.mono (fun k _ h => by (try simp only [] at *); omega)) ?_
    rintro v23 w23 ⟨hM23, hx23⟩
    have hx23' := hx23.size
    refine X.dE (i := 11) Zl rfl (X.dwN rfl) (X.appE (K := KEn) (S := fun k => w19.heap.size ≤ k) KEn_flat Zu131 EEn rfl rfl (Mine.mono (T := fun k => w19.heap.size ≤ k) hM23 (fun k h1 h2 => by (try simp only [] at *); omega)) ((hs9.drop _ _ Zz Zz).keep ((((((hk.trans hk3).trans hk19).trans hk20).step hx21 zq34).trans hk22).step hx23 zq34)) zq15 zq34) (by rintro v24 w24 ⟨hM24, hx24⟩ _; exact hx24.mono (fun k _ h => by (try simp only [] at *); omega)) ?_
    rintro v24 w24 ⟨hM24, hx24⟩
    have hx24' := hx24.size
    refine X.dStep (i := 12) Zl rfl (X.dwN rfl) (X.assign rfl) (fun h => absurd h (by decide))<|Zdend Zl<|X.ret1 Zf153 Zr153 rfl ?_
    have hcut := cut_at (fun p : ByteArray × Int => sless p.1 nm) (l := L) (k := i) (fun j y hj hy => hlt j y hj hy) (fun y hy => by first | (rw [hx] at hy; cases hy; exact hc) | (rw [List.getElem?_eq_none Zz] at hy; cases hy)) Zz
    exact ⟨by rw [rwith, ← hL, rins, hcut.1, hcut.2]; exact (hM24).mono (fun q _ h => by (try simp only at h); omega), hkA.trans (((((((hk.trans hk3).trans hk19).trans hk20).step hx21 zq34).trans hk22).step hx23 zq34).step hx24 zq34)⟩
   ·refine X.d1E (i := 6) rfl (X.dwN rfl) (X.litKF KEn_flat (K := KEn) (xs := [Operand.tmp 31]) (vs := [evEn (nm, k)]) (ys := [(nm, k)]) Zu131 Zs192 Zv192 rfl rfl rfl rfl rfl (repsEn _)) (by rintro _ w25 ⟨rfl, hs25, hB25, hk25, hz25⟩ _; exact hk25.mono (fun _ _ h => h.elim)) ?_
    rintro _ w25 ⟨rfl, hs25, hB25, hk25, hz25⟩
    refine X.dE (i := 4) Zl rfl (X.dwN rfl) (X.appE (K := KEn) (S := fun k => w19.heap.size ≤ k ∧ k ≠ w20.heap.size) KEn_flat Zu131 EEn rfl rfl ((Mine.mono (T := fun k => w19.heap.size ≤ k ∧ k ≠ w20.heap.size) hM20 (fun k h1 h2 => by (try simp only [] at *); omega)).keep hk25) ((hs9.take _ Zz).keep ((((hk.trans hk3).trans hk19).trans hk20).trans hk25)) zq15 zq34) (by rintro v26 w26 ⟨hM26, hx26⟩ _; exact hx26.mono (fun k _ h => by (try simp only [] at *); omega)) ?_
    rintro v26 w26 ⟨hM26, hx26⟩
    replace hM26 := Mine.mono (T := fun k => w19.heap.size ≤ k) hM26 (fun k _ h => by (try simp only [] at *); omega)
    have hx26' := hx26.size
    refine X.dE (i := 7) Zl rfl (X.dwN rfl) (X.appE (K := KEn) (S := fun k => w19.heap.size ≤ k) KEn_flat Zu131 EEn rfl rfl (Mine.mono (T := fun k => w19.heap.size ≤ k) hM26 (fun k h1 h2 => by (try simp only [] at *); omega)) (hs25.ext hx26 zq36) zq15 zq34) (by rintro v27 w27 ⟨hM27, hx27⟩ _; exact hx27.mono (fun k _ h => by (try simp only [] at *); omega)) ?_
    rintro v27 w27 ⟨hM27, hx27⟩
    have hx27' := hx27.size
    refine X.dE (i := 11) Zl rfl (X.dwN rfl) (X.appE (K := KEn) (S := fun k => w19.heap.size ≤ k) KEn_flat Zu131 EEn rfl rfl (Mine.mono (T := fun k => w19.heap.size ≤ k) hM27 (fun k h1 h2 => by (try simp only [] at *); omega)) ((hs9.drop _ _ Zz Zz).keep ((((((hk.trans hk3).trans hk19).trans hk20).trans hk25).step hx26 zq34).step hx27 zq34)) zq15 zq34) (by rintro v28 w28 ⟨hM28, hx28⟩ _; exact hx28.mono (fun k _ h => by (try simp only [] at *); omega)) ?_
    rintro v28 w28 ⟨hM28, hx28⟩
    have hx28' := hx28.size
    refine X.dStep (i := 12) Zl rfl (X.dwN rfl) (X.assign rfl) (fun h => absurd h (by decide))<|Zdend Zl<|X.ret1 Zf153 Zr153 rfl ?_
    have hcut := cut_at (fun p : ByteArray × Int => sless p.1 nm) (l := L) (k := i) (fun j y hj hy => hlt j y hj hy) (fun y hy => by first | (rw [hx] at hy; cases hy; exact hc) | (rw [List.getElem?_eq_none Zz] at hy; cases hy)) Zz
    exact ⟨by rw [rwith, ← hL, rins, hcut.1, hcut.2]; exact (hM28).mono (fun q _ h => by (try simp only at h); omega), hkA.trans (((((((hk.trans hk3).trans hk19).trans hk20).trans hk25).step hx26 zq34).step hx27 zq34).step hx28 zq34)⟩
  ·refine X.d1E (i := 6) rfl (X.dwN rfl) (X.litKF KEn_flat (K := KEn) (xs := [Operand.tmp 31]) (vs := [evEn (nm, k)]) (ys := [(nm, k)]) Zu131 Zs192 Zv192 rfl rfl rfl rfl rfl (repsEn _)) (by rintro _ w29 ⟨rfl, hs29, hB29, hk29, hz29⟩ _; exact hk29.mono (fun _ _ h => h.elim)) ?_
   rintro _ w29 ⟨rfl, hs29, hB29, hk29, hz29⟩
   refine X.dE (i := 0) Zl rfl (X.dwN rfl) (X.lit0E (K := KEn) (S := fun k => w29.heap.size ≤ k) Zu131 Zs192 zq34) (by rintro v30 w30 ⟨hM30, hk30, hz30⟩ _; exact hk30.mono (fun _ _ h => h.elim)) ?_
   rintro v30 w30 ⟨hM30, hk30, hz30⟩
   refine X.dE (i := 4) Zl rfl (X.dwN rfl) (X.appE (K := KEn) (S := fun k => w29.heap.size ≤ k) KEn_flat Zu131 EEn rfl rfl hM30 ((hs9.take _ Zz).keep ((((hk.trans hk3).trans hk19).trans hk29).trans hk30)) zq15 zq34) (by rintro v31 w31 ⟨hM31, hx31⟩ _; exact hx31.mono (fun k _ h => by (try simp only [] at *); omega)) ?_
   rintro v31 w31 ⟨hM31, hx31⟩
   have hx31' := hx31.size
   refine X.dE (i := 7) Zl rfl (X.dwN rfl) (X.appE (K := KEn) (S := fun k => w29.heap.size ≤ k) KEn_flat Zu131 EEn rfl rfl (Mine.mono (T := fun k => w29.heap.size ≤ k) hM31 (fun k h1 h2 => by (try simp only [] at *); omega)) (hs29.keep (hk30.step hx31 zq34)) zq15 zq34) (by rintro v32 w32 ⟨hM32, hx32⟩ _; exact hx32.mono (fun k _ h => by (try simp only [] at *); omega)) ?_
   rintro v32 w32 ⟨hM32, hx32⟩
   have hx32' := hx32.size
   refine X.dE (i := 11) Zl rfl (X.dwN rfl) (X.appE (K := KEn) (S := fun k => w29.heap.size ≤ k) KEn_flat Zu131 EEn rfl rfl (Mine.mono (T := fun k => w29.heap.size ≤ k) hM32 (fun k h1 h2 => by (try simp only [] at *); omega)) ((hs9.drop _ _ Zz Zz).keep ((((((hk.trans hk3).trans hk19).trans hk29).trans hk30).step hx31 zq34).step hx32 zq34)) zq15 zq34) (by rintro v33 w33 ⟨hM33, hx33⟩ _; exact hx33.mono (fun k _ h => by (try simp only [] at *); omega)) ?_
   rintro v33 w33 ⟨hM33, hx33⟩
   have hx33' := hx33.size
   refine X.dStep (i := 12) Zl rfl (X.dwN rfl) (X.assign rfl) (fun h => absurd h (by decide))<|Zdend Zl<|X.ret1 Zf153 Zr153 rfl ?_
   have hcut := cut_at (fun p : ByteArray × Int => sless p.1 nm) (l := L) (k := i) (fun j y hj hy => hlt j y hj hy) (fun y hy => by first | (rw [hx] at hy; cases hy; exact hc) | (rw [List.getElem?_eq_none Zz] at hy; cases hy)) Zz
   exact ⟨by rw [rwith, ← hL, rins, hcut.1, hcut.2]; exact (hM33).mono (fun q _ h => by (try simp only at h); omega), hkA.trans (((((((hk.trans hk3).trans hk19).trans hk29).trans hk30).step hx31 zq34).step hx32 zq34).step hx33 zq34)⟩
theorem rrepsI {w : World} (x : Int) (h : -9223372036854775808 ≤ x ∧ x ≤ 9223372036854775807) : RepsV KI w [x] [.int .i64 x] := ⟨⟨_, rfl, rfl, h⟩, trivial⟩
def rapply (c : CHG) (l : DIR) : DIR := (fun l' : DIR => if c.2.1 = ⟨#[]⟩ then l' else rwith (c.2.1, c.2.2) l') (if c.1 = ⟨#[]⟩ then l else rwo c.1 l)
theorem rwo_len (nm : ByteArray) (l : DIR) : (rwo nm l).length ≤ l.length := List.length_filter_le _ _
theorem put_c {lo hi n c : Nat} {A : Option Addr} {l : List Int} (k : Int) (w : World) (hs : Sl KI lo hi w A n l) (hnc : n ≤ c) (hk : -9223372036854775808 ≤ k ∧ k ≤ 9223372036854775807) (hn : n ≤ 100000) : Ret Tryz.prog 122 #[.slice A n c, .int .i64 k] w fun r w' => (r = .slice A n c ∧ lput k l = l ∨ Mine KI 3 (fun k => w.heap.size ≤ k) 0 0 w' r (lput k l)) ∧ Keep w w' := by
 have hl := hs.len
 refine X.enter Zf122 rfl Tryz.ntmps122 rfl<|Zs<|Zr<|Zoa rfl rfl<|Ze<|Zs<|Zr<|Zoa rfl rfl<|Ze<|Zs<|Zb<|X.loopL (σ := Nat) (fun s => [(0, .slice A n c), (1, .int .i64 k), (5, .int .i64 (s : Int))]) (fun s w' => s ≤ n ∧ (∀ j x, j < s → l[j]? = some x → decide (x < k) = true) ∧ Keep w w') (fun s => n - s) 0 ⟨rfl, rfl, rfl, trivial⟩ ⟨Nat.zero_le _, fun j x h => by omega, (Keep.refl _)⟩ ?_
 rintro i b0 wl ⟨hi, hlt, hkl⟩ hback
 have hkl' := hkl.size
 refine Zs<|Zs<|Zr<|Zomi rfl rfl<|Zoms rfl rfl<|Zo (X.lenSl Zu74 rfl) rfl<|X.opP X.wN rfl rfl (X.lss rfl rfl) (fun h9 => ?_) (fun h9 => ?_)
 ·obtain ⟨x, hx⟩ := rget i hl Zz
  refine Zomt rfl rfl<|Zg (Zdms rfl) rfl rfl rfl rfl<|Zg (Zdmi rfl) rfl rfl rfl rfl<|Zg (X.idxS (hs.keep hkl) Zu74 Zs3 rfl rfl ⟨by omega, by omega⟩) rfl rfl rfl rfl<|Zg (X.loadS Zi3 (hs.keep hkl) hx rfl (fun _ h => by rw [h.1]; rfl)) rfl rfl rfl rfl ?_
  refine Zg (Zdmi rfl) rfl rfl rfl rfl<|X.opP (X.wG rfl rfl rfl) rfl rfl (X.lss rfl rfl) (fun h16 => ?_) (fun h16 => ?_)
  ·refine Zo (ZdTt rfl rfl) rfl<|Ze<|Zt rfl<|Zk<|Zb<|Zr<|Zomi rfl rfl<|Zo (X.add rfl rfl (X.w_i64 Zz)) rfl<|Zoai rfl rfl<|Ze<|Zi ?_
   refine hback (i + 1) _ _ ⟨rfl, rfl, rfl, trivial⟩ ⟨by omega, fun j y hj hy => by
               rcases Nat.lt_or_ge j i with h | h
               ·exact hlt j y h hy
               ·rw [show j = i by omega, hx] at hy; cases hy; exact decide_eq_true h16, hkl⟩ Zz
  ·refine Zo (ZdTf rfl rfl) rfl<|Ze<|Zf rfl<|Zx rfl<|Zs<|Zs<|Zr<|Zomi rfl rfl<|Zoms rfl rfl<|Zo (X.lenSl Zu74 rfl) rfl<|X.opP X.wN rfl rfl (X.lss rfl rfl) (fun h23 => ?_) (fun h23 => ?_)
   ·
    refine Zomt rfl rfl<|Zg (Zdms rfl) rfl rfl rfl rfl<|Zg (Zdmi rfl) rfl rfl rfl rfl<|Zg (X.idxS (hs.keep hkl) Zu74 Zs3 rfl rfl ⟨by omega, by omega⟩) rfl rfl rfl rfl<|Zg (X.loadS Zi3 (hs.keep hkl) hx rfl (fun _ h => by rw [h.1]; rfl)) rfl rfl rfl rfl ?_
    refine Zg (Zdmi rfl) rfl rfl rfl rfl<|X.opP (X.wG rfl rfl rfl) rfl rfl (X.eqI rfl rfl) (fun h30 => ?_) (fun h30 => ?_)
    ·refine Zo (ZdTt rfl rfl) rfl<|Ze<|Zt rfl<|Zs<|Zr<|Zoms rfl rfl<|Zoas rfl rfl<|Ze<|X.ret1 Zf122 Zr122 rfl ?_
     have hcut := cut_at (fun x : Int => decide (x < k)) (l := l) (k := i) (fun j y hj hy => hlt j y hj hy) (fun y hy => by first | (rw [hx] at hy; cases hy; exact decide_eq_false h16) | (rw [List.getElem?_eq_none Zz] at hy; cases hy)) Zz
     exact ⟨.inl ⟨rfl, by rw [lput, if_pos (by rw [hcut.2, List.head?_drop, hx, h30])]⟩, hkl⟩
    ·refine Zo (ZdTf rfl rfl) rfl<|Ze<|Zf rfl<|Zk<|Zs<|X.regionD (fun k => wl.heap.size ≤ k) 12 Zl Zl (fun w1 hk1 hz1 => ?_)
     refine ZDc 1 rfl Zl (Zdms rfl)<|ZDc 2 rfl Zl (Zdmi rfl)<|ZDc 3 rfl Zl (X.cutHr Zu74 Zs3 rfl rfl Zz)<|ZDc 5 rfl Zl (Zdmi rfl)<|ZDc 8 rfl Zl (Zdms rfl)<|ZDc 9 rfl Zl (Zdmi rfl)<|ZDc 10 rfl Zl (X.cutL Zu74 Zs3 rfl rfl Zz) ?_
     refine X.dTwo (i := 0) (j := 6) Zl ?_ ?_
     ·refine X.d1E (i := 0) rfl (X.dwN rfl) (X.lit0E (K := KI) (S := fun k => w1.heap.size ≤ k) Zu74 Zs3 zq34) (by rintro v2 w2 ⟨hM2, hk2, hz2⟩ _; exact hk2.mono (fun _ _ h => h.elim)) ?_
      rintro v2 w2 ⟨hM2, hk2, hz2⟩
      refine X.dTwo (i := 4) (j := 6) Zl ?_ ?_
      ·refine X.d1E (i := 4) rfl (X.dwN rfl) (X.appE (K := KI) (S := fun k => w1.heap.size ≤ k) KI_flat Zu74 EIr rfl rfl hM2 ((hs.take _ Zz).keep ((hkl.trans hk1).trans hk2)) zq15 zq34) (by rintro v3 w3 ⟨hM3, hx3⟩ _; exact hx3.mono (fun k _ h => by (try simp only [] at *); omega)) ?_
       rintro v3 w3 ⟨hM3, hx3⟩
       have hx3' := hx3.size
       refine X.dE (i := 6) Zl rfl (X.dwN rfl) (X.litKF KI_flat (K := KI) (xs := [Operand.tmp 38]) (vs := [.int .i64 k]) (ys := [k]) Zu74 Zs3 Zv3 rfl rfl rfl rfl rfl (rrepsI k Zz)) (by rintro _ w4 ⟨rfl, hs4, hB4, hk4, hz4⟩ _; exact hk4.mono (fun _ _ h => h.elim)) ?_
       rintro _ w4 ⟨rfl, hs4, hB4, hk4, hz4⟩
       refine X.dE (i := 7) Zl rfl (X.dwN rfl) (X.appE (K := KI) (S := fun k => w1.heap.size ≤ k) KI_flat Zu74 EIr rfl rfl (Mine.mono (T := fun k => w1.heap.size ≤ k) (hM3.keep hk4) (fun k h1 h2 => by (try simp only [] at *); omega)) hs4 zq15 zq34) (by rintro v5 w5 ⟨hM5, hx5⟩ _; exact hx5.mono (fun k _ h => by (try simp only [] at *); omega)) ?_
       rintro v5 w5 ⟨hM5, hx5⟩
       have hx5' := hx5.size
       refine X.dE (i := 11) Zl rfl (X.dwN rfl) (X.appE (K := KI) (S := fun k => w1.heap.size ≤ k) KI_flat Zu74 EIr rfl rfl (Mine.mono (T := fun k => w1.heap.size ≤ k) hM5 (fun k h1 h2 => by (try simp only [] at *); omega)) ((hs.drop _ _ Zz Zz).keep (((((hkl.trans hk1).trans hk2).step hx3 zq34).trans hk4).step hx5 zq34)) zq15 zq34) (by rintro v6 w6 ⟨hM6, hx6⟩ _; exact hx6.mono (fun k _ h => by (try simp only [] at *); omega)) ?_
       rintro v6 w6 ⟨hM6, hx6⟩
       have hx6' := hx6.size
       refine X.dStep (i := 12) Zl rfl (X.dwN rfl) (X.assign rfl) (fun h => absurd h (by decide))<|Zdend Zl<|X.ret1 Zf122 Zr122 rfl ?_
       have hcut := cut_at (fun x : Int => decide (x < k)) (l := l) (k := i) (fun j y hj hy => hlt j y hj hy) (fun y hy => by first | (rw [hx] at hy; cases hy; exact decide_eq_false h16) | (rw [List.getElem?_eq_none Zz] at hy; cases hy)) Zz
       have hne : ¬ (l.dropWhile fun x : Int => decide (x < k)).head? = some k := by
         rw [hcut.2, List.head?_drop]
         first | (rw [hx]; intro e; injection e with e; exact h30 e) | (rw [List.getElem?_eq_none Zz]; simp)
       have he : lput k l = l.take i ++ [k] ++ l.drop i := by rw [lput, if_neg hne, hcut.1, hcut.2]
       exact ⟨.inr (by rw [he]; exact (hM6).mono (fun q _ h => by (try simp only at h); omega)), ((((((hkl.trans hk1).trans hk2).step hx3 zq34).trans hk4).step hx5 zq34).step hx6 zq34)⟩
      ·refine X.d1E (i := 6) rfl (X.dwN rfl) (X.litKF KI_flat (K := KI) (xs := [Operand.tmp 38]) (vs := [.int .i64 k]) (ys := [k]) Zu74 Zs3 Zv3 rfl rfl rfl rfl rfl (rrepsI k Zz)) (by rintro _ w7 ⟨rfl, hs7, hB7, hk7, hz7⟩ _; exact hk7.mono (fun _ _ h => h.elim)) ?_
       rintro _ w7 ⟨rfl, hs7, hB7, hk7, hz7⟩
       refine X.dE (i := 4) Zl rfl (X.dwN rfl) (X.appE (K := KI) (S := fun k => w1.heap.size ≤ k ∧ k ≠ w2.heap.size) KI_flat Zu74 EIr rfl rfl ((Mine.mono (T := fun k => w1.heap.size ≤ k ∧ k ≠ w2.heap.size) hM2 (fun k h1 h2 => by (try simp only [] at *); omega)).keep hk7) ((hs.take _ Zz).keep (((hkl.trans hk1).trans hk2).trans hk7)) zq15 zq34) (by rintro v8 w8 ⟨hM8, hx8⟩ _; exact hx8.mono (fun k _ h => by (try simp only [] at *); omega)) ?_
       rintro v8 w8 ⟨hM8, hx8⟩
       replace hM8 := Mine.mono (T := fun k => w1.heap.size ≤ k) hM8 (fun k _ h => by (try simp only [] at *); omega)
       have hx8' := hx8.size
       refine X.dE (i := 7) Zl rfl (X.dwN rfl) (X.appE (K := KI) (S := fun k => w1.heap.size ≤ k) KI_flat Zu74 EIr rfl rfl (Mine.mono (T := fun k => w1.heap.size ≤ k) hM8 (fun k h1 h2 => by (try simp only [] at *); omega)) (hs7.ext hx8 zq36) zq15 zq34) (by rintro v9 w9 ⟨hM9, hx9⟩ _; exact hx9.mono (fun k _ h => by (try simp only [] at *); omega)) ?_
       rintro v9 w9 ⟨hM9, hx9⟩
       have hx9' := hx9.size
       refine X.dE (i := 11) Zl rfl (X.dwN rfl) (X.appE (K := KI) (S := fun k => w1.heap.size ≤ k) KI_flat Zu74 EIr rfl rfl (Mine.mono (T := fun k => w1.heap.size ≤ k) hM9 (fun k h1 h2 => by (try simp only [] at *); omega)) ((hs.drop _ _ Zz Zz).keep (((((hkl.trans hk1).trans hk2).trans hk7).step hx8 zq34).step hx9 zq34)) zq15 zq34) (by rintro v10 w10 ⟨hM10, hx10⟩ _; exact hx10.mono (fun k _ h => by (try simp only [] at *); omega)) ?_
       rintro v10 w10 ⟨hM10, hx10⟩
       have hx10' := hx10.size
       refine X.dStep (i := 12) Zl rfl (X.dwN rfl) (X.assign rfl) (fun h => absurd h (by decide))<|Zdend Zl<|X.ret1 Zf122 Zr122 rfl ?_
       have hcut := cut_at (fun x : Int => decide (x < k)) (l := l) (k := i) (fun j y hj hy => hlt j y hj hy) (fun y hy => by first | (rw [hx] at hy; cases hy; exact decide_eq_false h16) | (rw [List.getElem?_eq_none Zz] at hy; cases hy)) Zz
       have hne : ¬ (l.dropWhile fun x : Int => decide (x < k)).head? = some k := by
         rw [hcut.2, List.head?_drop]
         first | (rw [hx]; intro e; injection e with e; exact h30 e) | (rw [List.getElem?_eq_none Zz]; simp)
       have he : lput k l = l.take i ++ [k] ++ l.drop i := by rw [lput, if_neg hne, hcut.1, hcut.2]
       exact ⟨.inr (by rw [he]; exact (hM10).mono (fun q _ h => by (try simp only at h); omega)), ((((((hkl.trans hk1).trans hk2).trans hk7).step hx8 zq34).step hx9 zq34).step hx10 zq34)⟩
     ·refine X.d1E (i := 6) rfl (X.dwN rfl) (X.litKF KI_flat (K := KI) (xs := [Operand.tmp 38]) (vs := [.int .i64 k]) (ys := [k]) Zu74 Zs3 Zv3 rfl rfl rfl rfl rfl (rrepsI k Zz)) (by rintro _ w11 ⟨rfl, hs11, hB11, hk11, hz11⟩ _; exact hk11.mono (fun _ _ h => h.elim)) ?_
      rintro _ w11 ⟨rfl, hs11, hB11, hk11, hz11⟩
      refine X.dE (i := 0) Zl rfl (X.dwN rfl) (X.lit0E (K := KI) (S := fun k => w11.heap.size ≤ k) Zu74 Zs3 zq34) (by rintro v12 w12 ⟨hM12, hk12, hz12⟩ _; exact hk12.mono (fun _ _ h => h.elim)) ?_
      rintro v12 w12 ⟨hM12, hk12, hz12⟩
      refine X.dE (i := 4) Zl rfl (X.dwN rfl) (X.appE (K := KI) (S := fun k => w11.heap.size ≤ k) KI_flat Zu74 EIr rfl rfl hM12 ((hs.take _ Zz).keep (((hkl.trans hk1).trans hk11).trans hk12)) zq15 zq34) (by rintro v13 w13 ⟨hM13, hx13⟩ _; exact hx13.mono (fun k _ h => by (try simp only [] at *); omega)) ?_
      rintro v13 w13 ⟨hM13, hx13⟩
      have hx13' := hx13.size
      refine X.dE (i := 7) Zl rfl (X.dwN rfl) (X.appE (K := KI) (S := fun k => w11.heap.size ≤ k) KI_flat Zu74 EIr rfl rfl (Mine.mono (T := fun k => w11.heap.size ≤ k) hM13 (fun k h1 h2 => by (try simp only [] at *); omega)) (hs11.keep (hk12.step hx13 zq34)) zq15 zq34) (by rintro v14 w14 ⟨hM14, hx14⟩ _; exact hx14.mono (fun k _ h => by (try simp only [] at *); omega)) ?_
      rintro v14 w14 ⟨hM14, hx14⟩
      have hx14' := hx14.size
      refine X.dE (i := 11) Zl rfl (X.dwN rfl) (X.appE (K := KI) (S := fun k => w11.heap.size ≤ k) KI_flat Zu74 EIr rfl rfl (Mine.mono (T := fun k => w11.heap.size ≤ k) hM14 (fun k h1 h2 => by (try simp only [] at *); omega)) ((hs.drop _ _ Zz Zz).keep (((((hkl.trans hk1).trans hk11).trans hk12).step hx13 zq34).step hx14 zq34)) zq15 zq34) (by rintro v15 w15 ⟨hM15, hx15⟩ _; exact hx15.mono (fun k _ h => by (try simp only [] at *); omega)) ?_
      rintro v15 w15 ⟨hM15, hx15⟩
      have hx15' := hx15.size
      refine X.dStep (i := 12) Zl rfl (X.dwN rfl) (X.assign rfl) (fun h => absurd h (by decide))<|Zdend Zl<|X.ret1 Zf122 Zr122 rfl ?_
      have hcut := cut_at (fun x : Int => decide (x < k)) (l := l) (k := i) (fun j y hj hy => hlt j y hj hy) (fun y hy => by first | (rw [hx] at hy; cases hy; exact decide_eq_false h16) | (rw [List.getElem?_eq_none Zz] at hy; cases hy)) Zz
      have hne : ¬ (l.dropWhile fun x : Int => decide (x < k)).head? = some k := by
        rw [hcut.2, List.head?_drop]
        first | (rw [hx]; intro e; injection e with e; exact h30 e) | (rw [List.getElem?_eq_none Zz]; simp)
      have he : lput k l = l.take i ++ [k] ++ l.drop i := by rw [lput, if_neg hne, hcut.1, hcut.2]
      exact ⟨.inr (by rw [he]; exact (hM15).mono (fun q _ h => by (try simp only at h); omega)), ((((((hkl.trans hk1).trans hk11).trans hk12).step hx13 zq34).step hx14 zq34).step hx15 zq34)⟩
   ·exact absurd (show (i : Int) < (n : Int) by omega) h23
 ·refine Zomf rfl rfl<|Zp rfl rfl rfl<|Zp rfl rfl rfl<|Zp rfl rfl rfl<|Zp rfl rfl rfl<|Zp rfl rfl rfl<|Zp rfl rfl rfl<|Zo (ZdFf rfl rfl) rfl<|Ze<|Zf rfl<|Zx rfl<|Zs<|Zs<|Zr<|Zomi rfl rfl<|Zoms rfl rfl<|Zo (X.lenSl Zu74 rfl) rfl<|X.opP X.wN rfl rfl (X.lss rfl rfl) (fun h23 => ?_) (fun h23 => ?_)
  ·exact absurd h23 Zz
  ·
   refine Zomf rfl rfl<|Zp rfl rfl rfl<|Zp rfl rfl rfl<|Zp rfl rfl rfl<|Zp rfl rfl rfl<|Zp rfl rfl rfl<|Zp rfl rfl rfl<|Zo (ZdFf rfl rfl) rfl<|Ze<|Zf rfl<|Zk<|Zs<|X.regionD (fun k => wl.heap.size ≤ k) 12 Zl Zl (fun w16 hk16 hz16 => ?_)
   refine ZDc 1 rfl Zl (Zdms rfl)<|ZDc 2 rfl Zl (Zdmi rfl)<|ZDc 3 rfl Zl (X.cutHr Zu74 Zs3 rfl rfl Zz)<|ZDc 5 rfl Zl (Zdmi rfl)<|ZDc 8 rfl Zl (Zdms rfl)<|ZDc 9 rfl Zl (Zdmi rfl)<|ZDc 10 rfl Zl (X.cutL Zu74 Zs3 rfl rfl Zz) ?_
   refine X.dTwo (i := 0) (j := 6) Zl ?_ ?_
   ·refine X.d1E (i := 0) rfl (X.dwN rfl) (X.lit0E (K := KI) (S := fun k => w16.heap.size ≤ k) Zu74 Zs3 zq34) (by rintro v17 w17 ⟨hM17, hk17, hz17⟩ _; exact hk17.mono (fun _ _ h => h.elim)) ?_
    rintro v17 w17 ⟨hM17, hk17, hz17⟩
    refine X.dTwo (i := 4) (j := 6) Zl ?_ ?_
    ·refine X.d1E (i := 4) rfl (X.dwN rfl) (X.appE (K := KI) (S := fun k => w16.heap.size ≤ k) KI_flat Zu74 EIr rfl rfl hM17 ((hs.take _ Zz).keep ((hkl.trans hk16).trans hk17)) zq15 zq34) (by rintro v18 w18 ⟨hM18, hx18⟩ _; exact hx18.mono (fun k _ h => by (try simp only [] at *); omega)) ?_
     rintro v18 w18 ⟨hM18, hx18⟩
     have hx18' := hx18.size
     refine X.dE (i := 6) Zl rfl (X.dwN rfl) (X.litKF KI_flat (K := KI) (xs := [Operand.tmp 38]) (vs := [.int .i64 k]) (ys := [k]) Zu74 Zs3 Zv3 rfl rfl rfl rfl rfl (rrepsI k Zz)) (by rintro _ w19 ⟨rfl, hs19, hB19, hk19, hz19⟩ _; exact hk19.mono (fun _ _ h => h.elim)) ?_
     rintro _ w19 ⟨rfl, hs19, hB19, hk19, hz19⟩
     refine X.dE (i := 7) Zl rfl (X.dwN rfl) (X.appE (K := KI) (S := fun k => w16.heap.size ≤ k) KI_flat Zu74 EIr rfl rfl (Mine.mono (T := fun k => w16.heap.size ≤ k) (hM18.keep hk19) (fun k h1 h2 => by (try simp only [] at *); omega)) hs19 zq15 zq34) (by rintro v20 w20 ⟨hM20, hx20⟩ _; exact hx20.mono (fun k _ h => by (try simp only [] at *); omega)) ?_
     rintro v20 w20 ⟨hM20, hx20⟩
     have hx20' := hx20.size
     refine X.dE (i := 11) Zl rfl (X.dwN rfl) (X.appE (K := KI) (S := fun k => w16.heap.size ≤ k) KI_flat Zu74 EIr rfl rfl (Mine.mono (T := fun k => w16.heap.size ≤ k) hM20 (fun k h1 h2 => by (try simp only [] at *); omega)) ((hs.drop _ _ Zz Zz).keep (((((hkl.trans hk16).trans hk17).step hx18 zq34).trans hk19).step hx20 zq34)) zq15 zq34) (by rintro v21 w21 ⟨hM21, hx21⟩ _; exact hx21.mono (fun k _ h => by (try simp only [] at *); omega)) ?_
     rintro v21 w21 ⟨hM21, hx21⟩
     have hx21' := hx21.size
     refine X.dStep (i := 12) Zl rfl (X.dwN rfl) (X.assign rfl) (fun h => absurd h (by decide))<|Zdend Zl<|X.ret1 Zf122 Zr122 rfl ?_
     have hcut := cut_at (fun x : Int => decide (x < k)) (l := l) (k := i) (fun j y hj hy => hlt j y hj hy) (fun y hy => by first | (rw [hx] at hy; cases hy; exact decide_eq_false h16) | (rw [List.getElem?_eq_none Zz] at hy; cases hy)) Zz
     have hne : ¬ (l.dropWhile fun x : Int => decide (x < k)).head? = some k := by
       rw [hcut.2, List.head?_drop]
       first | (rw [hx]; intro e; injection e with e; exact h30 e) | (rw [List.getElem?_eq_none Zz]; simp)
     have he : lput k l = l.take i ++ [k] ++ l.drop i := by rw [lput, if_neg hne, hcut.1, hcut.2]
     exact ⟨.inr (by rw [he]; exact (hM21).mono (fun q _ h => by (try simp only at h); omega)), ((((((hkl.trans hk16).trans hk17).step hx18 zq34).trans hk19).step hx20 zq34).step hx21 zq34)⟩
    ·refine X.d1E (i := 6) rfl (X.dwN rfl) (X.litKF KI_flat (K := KI) (xs := [Operand.tmp 38]) (vs := [.int .i64 k]) (ys := [k]) Zu74 Zs3 Zv3 rfl rfl rfl rfl rfl (rrepsI k Zz)) (by rintro _ w22 ⟨rfl, hs22, hB22, hk22, hz22⟩ _; exact hk22.mono (fun _ _ h => h.elim)) ?_
     rintro _ w22 ⟨rfl, hs22, hB22, hk22, hz22⟩
     refine X.dE (i := 4) Zl rfl (X.dwN rfl) (X.appE (K := KI) (S := fun k => w16.heap.size ≤ k ∧ k ≠ w17.heap.size) KI_flat Zu74 EIr rfl rfl ((Mine.mono (T := fun k => w16.heap.size ≤ k ∧ k ≠ w17.heap.size) hM17 (fun k h1 h2 => by (try simp only [] at *); omega)).keep hk22) ((hs.take _ Zz).keep (((hkl.trans hk16).trans hk17).trans hk22)) zq15 zq34) (by rintro v23 w23 ⟨hM23, hx23⟩ _; exact hx23.mono (fun k _ h => by (try simp only [] at *); omega)) ?_
     rintro v23 w23 ⟨hM23, hx23⟩
     replace hM23 := Mine.mono (T := fun k => w16.heap.size ≤ k) hM23 (fun k _ h => by (try simp only [] at *); omega)
     have hx23' := hx23.size
     refine X.dE (i := 7) Zl rfl (X.dwN rfl) (X.appE (K := KI) (S := fun k => w16.heap.size ≤ k) KI_flat Zu74 EIr rfl rfl (Mine.mono (T := fun k => w16.heap.size ≤ k) hM23 (fun k h1 h2 => by (try simp only [] at *); omega)) (hs22.ext hx23 zq36) zq15 zq34) (by rintro v24 w24 ⟨hM24, hx24⟩ _; exact hx24.mono (fun k _ h => by (try simp only [] at *); omega)) ?_
     rintro v24 w24 ⟨hM24, hx24⟩
     have hx24' := hx24.size
     refine X.dE (i := 11) Zl rfl (X.dwN rfl) (X.appE (K := KI) (S := fun k => w16.heap.size ≤ k) KI_flat Zu74 EIr rfl rfl (Mine.mono (T := fun k => w16.heap.size ≤ k) hM24 (fun k h1 h2 => by (try simp only [] at *); omega)) ((hs.drop _ _ Zz Zz).keep (((((hkl.trans hk16).trans hk17).trans hk22).step hx23 zq34).step hx24 zq34)) zq15 zq34) (by rintro v25 w25 ⟨hM25, hx25⟩ _; exact hx25.mono (fun k _ h => by (try simp only [] at *); omega)) ?_
     rintro v25 w25 ⟨hM25, hx25⟩
     have hx25' := hx25.size
     refine X.dStep (i := 12) Zl rfl (X.dwN rfl) (X.assign rfl) (fun h => absurd h (by decide))<|Zdend Zl<|X.ret1 Zf122 Zr122 rfl ?_
     have hcut := cut_at (fun x : Int => decide (x < k)) (l := l) (k := i) (fun j y hj hy => hlt j y hj hy) (fun y hy => by first | (rw [hx] at hy; cases hy; exact decide_eq_false h16) | (rw [List.getElem?_eq_none Zz] at hy; cases hy)) Zz
     have hne : ¬ (l.dropWhile fun x : Int => decide (x < k)).head? = some k := by
       rw [hcut.2, List.head?_drop]
       first | (rw [hx]; intro e; injection e with e; exact h30 e) | (rw [List.getElem?_eq_none Zz]; simp)
     have he : lput k l = l.take i ++ [k] ++ l.drop i := by rw [lput, if_neg hne, hcut.1, hcut.2]
     exact ⟨.inr (by rw [he]; exact (hM25).mono (fun q _ h => by (try simp only at h); omega)), ((((((hkl.trans hk16).trans hk17).trans hk22).step hx23 zq34).step hx24 zq34).step hx25 zq34)⟩
   ·refine X.d1E (i := 6) rfl (X.dwN rfl) (X.litKF KI_flat (K := KI) (xs := [Operand.tmp 38]) (vs := [.int .i64 k]) (ys := [k]) Zu74 Zs3 Zv3 rfl rfl rfl rfl rfl (rrepsI k Zz)) (by rintro _ w26 ⟨rfl, hs26, hB26, hk26, hz26⟩ _; exact hk26.mono (fun _ _ h => h.elim)) ?_
    rintro _ w26 ⟨rfl, hs26, hB26, hk26, hz26⟩
    refine X.dE (i := 0) Zl rfl (X.dwN rfl) (X.lit0E (K := KI) (S := fun k => w26.heap.size ≤ k) Zu74 Zs3 zq34) (by rintro v27 w27 ⟨hM27, hk27, hz27⟩ _; exact hk27.mono (fun _ _ h => h.elim)) ?_
    rintro v27 w27 ⟨hM27, hk27, hz27⟩
    refine X.dE (i := 4) Zl rfl (X.dwN rfl) (X.appE (K := KI) (S := fun k => w26.heap.size ≤ k) KI_flat Zu74 EIr rfl rfl hM27 ((hs.take _ Zz).keep (((hkl.trans hk16).trans hk26).trans hk27)) zq15 zq34) (by rintro v28 w28 ⟨hM28, hx28⟩ _; exact hx28.mono (fun k _ h => by (try simp only [] at *); omega)) ?_
    rintro v28 w28 ⟨hM28, hx28⟩
    have hx28' := hx28.size
    refine X.dE (i := 7) Zl rfl (X.dwN rfl) (X.appE (K := KI) (S := fun k => w26.heap.size ≤ k) KI_flat Zu74 EIr rfl rfl (Mine.mono (T := fun k => w26.heap.size ≤ k) hM28 (fun k h1 h2 => by (try simp only [] at *); omega)) (hs26.keep (hk27.step hx28 zq34)) zq15 zq34) (by rintro v29 w29 ⟨hM29, hx29⟩ _; exact hx29.mono (fun k _ h => by (try simp only [] at *); omega)) ?_
    rintro v29 w29 ⟨hM29, hx29⟩
    have hx29' := hx29.size
    refine X.dE (i := 11) Zl rfl (X.dwN rfl) (X.appE (K := KI) (S := fun k => w26.heap.size ≤ k) KI_flat Zu74 EIr rfl rfl (Mine.mono (T := fun k => w26.heap.size ≤ k) hM29 (fun k h1 h2 => by (try simp only [] at *); omega)) ((hs.drop _ _ Zz Zz).keep (((((hkl.trans hk16).trans hk26).trans hk27).step hx28 zq34).step hx29 zq34)) zq15 zq34) (by rintro v30 w30 ⟨hM30, hx30⟩ _; exact hx30.mono (fun k _ h => by (try simp only [] at *); omega)) ?_
    rintro v30 w30 ⟨hM30, hx30⟩
    have hx30' := hx30.size
    refine X.dStep (i := 12) Zl rfl (X.dwN rfl) (X.assign rfl) (fun h => absurd h (by decide))<|Zdend Zl<|X.ret1 Zf122 Zr122 rfl ?_
    have hcut := cut_at (fun x : Int => decide (x < k)) (l := l) (k := i) (fun j y hj hy => hlt j y hj hy) (fun y hy => by first | (rw [hx] at hy; cases hy; exact decide_eq_false h16) | (rw [List.getElem?_eq_none Zz] at hy; cases hy)) Zz
    have hne : ¬ (l.dropWhile fun x : Int => decide (x < k)).head? = some k := by
      rw [hcut.2, List.head?_drop]
      first | (rw [hx]; intro e; injection e with e; exact h30 e) | (rw [List.getElem?_eq_none Zz]; simp)
    have he : lput k l = l.take i ++ [k] ++ l.drop i := by rw [lput, if_neg hne, hcut.1, hcut.2]
    exact ⟨.inr (by rw [he]; exact (hM30).mono (fun q _ h => by (try simp only at h); omega)), ((((((hkl.trans hk16).trans hk26).trans hk27).step hx28 zq34).step hx29 zq34).step hx30 zq34)⟩
theorem apply_c {lo hi n c : Nat} {A : Option Addr} {l : DIR} (x : CHG) (w : World) (hs : Sl KEn lo hi w A n l) (hn : n ≤ 100000) : Ret Tryz.prog 119 #[.slice A n c, evCh x] w fun r w' => (r = .slice A n c ∧ rapply x l = l ∨ Mine KEn 192 (fun k => w.heap.size ≤ k) 0 0 w' r (rapply x l)) ∧ Keep w w' := by
 have hl := hs.len
 have hrl := rwo_len x.1 l
 refine X.enter Zf119 rfl Tryz.ntmps119 rfl<|Zs<|Zr<|Zc (X.boxE rfl rfl) rfl ?_
 rintro _ w1 ⟨rfl, hB1, hk1, hz1⟩
 refine Zoa rfl rfl<|Ze<|Zs<|Zs<|Zr<|Zo (X.fldB (j := 0) Zu150 rfl rfl Zs9 rfl) rfl<|Zo (X.load1B Zi9 hB1 rfl rfl) rfl<|X.opP X.wN rfl rfl (X.neD rfl rfl) (fun h7 => ?_) (fun h7 => ?_)
 ·refine Ze<|Zt rfl<|Zr<|Zoms rfl rfl<|Zo (X.fldB (j := 0) Zu150 rfl rfl Zs9 rfl) rfl<|Zo (X.load1B Zi9 hB1 rfl rfl) rfl<|Zc (X.callE (without_c _ _ (hs.keep hk1) Zz) Tryz.call152 rfl rfl) rfl ?_
  rintro v2 w2 ⟨hM2, hk2⟩
  have hk2' := hk2.size
  refine Zoa rfl rfl<|Ze<|Zs<|Zs<|Zr<|Zo (X.fldB (j := 1) Zu150 rfl rfl Zs9 rfl) rfl<|Zo (X.load1B Zi9 (hB1.keep hk2) rfl rfl) rfl<|X.opP X.wN rfl rfl (X.neD rfl rfl) (fun h14 => ?_) (fun h14 => ?_)
  ·refine Ze<|Zt rfl<|Zr<|Zom rfl rfl<|Zo (X.fldB (j := 1) Zu150 rfl rfl Zs9 rfl) rfl<|Zo (X.load1B Zi9 (hB1.keep hk2) rfl rfl) rfl<|Zo (X.fldB (j := 2) Zu150 rfl rfl Zs3 rfl) rfl<|Zo (X.load1B Zi3 (hB1.keep hk2) rfl rfl) rfl<|Zo (X.buildB (vs := [(0, .string x.2.1), (1, .int .i64 x.2.2)]) (cs := #[.string x.2.1, .int .i64 x.2.2]) rfl Zl) rfl ?_
   have q4 := hM2.slF KEn_flat 0 (fun _ _ => Nat.zero_le _)
   obtain ⟨A4, c4, rfl, hc4, hs4⟩ := q4
   refine Zc (X.callE (with_c _ _ _ hs4 (by (try rw [hrl]); omega)) Tryz.call153 rfl rfl) rfl ?_
   rintro v3 w3 ⟨hM3, hk3⟩
   have hk3' := hk3.size
   refine Zoa rfl rfl<|Ze<|Zs<|Zr<|Zom rfl rfl<|Zoa rfl rfl<|Ze<|X.ret1 Zf119 Zr119 rfl ?_
   refine ⟨.inr ?_, ((hk1.trans hk2).trans hk3)⟩
   have he : rapply x l = rwith (x.2.1, x.2.2) (rwo x.1 l) := by rw [rapply]; simp only; rw [if_neg h14, if_neg h7]
   rw [he]
   exact (hM3).mono (fun q _ h => by (try simp only at h); omega)
  ·refine Ze<|Zf rfl<|Zk<|Zs<|Zr<|Zom rfl rfl<|Zoa rfl rfl<|Ze<|X.ret1 Zf119 Zr119 rfl ?_
   refine ⟨.inr ?_, (hk1.trans hk2)⟩
   have he : rapply x l = rwo x.1 l := by rw [rapply]; simp only; rw [if_pos (Classical.not_not.1 h14), if_neg h7]
   rw [he]
   exact (hM2).mono (fun q _ h => by (try simp only at h); omega)
 ·refine Ze<|Zf rfl<|Zk<|Zs<|Zs<|Zr<|Zo (X.fldB (j := 1) Zu150 rfl rfl Zs9 rfl) rfl<|Zo (X.load1B Zi9 hB1 rfl rfl) rfl<|X.opP X.wN rfl rfl (X.neD rfl rfl) (fun h14 => ?_) (fun h14 => ?_)
  ·refine Ze<|Zt rfl<|Zr<|Zoms rfl rfl<|Zo (X.fldB (j := 1) Zu150 rfl rfl Zs9 rfl) rfl<|Zo (X.load1B Zi9 hB1 rfl rfl) rfl<|Zo (X.fldB (j := 2) Zu150 rfl rfl Zs3 rfl) rfl<|Zo (X.load1B Zi3 hB1 rfl rfl) rfl<|Zo (X.buildB (vs := [(0, .string x.2.1), (1, .int .i64 x.2.2)]) (cs := #[.string x.2.1, .int .i64 x.2.2]) rfl Zl) rfl<|Zc (X.callE (with_c _ _ _ (hs.keep hk1) (by (try rw [hrl]); omega)) Tryz.call153 rfl rfl) rfl ?_
   rintro v5 w5 ⟨hM5, hk5⟩
   have hk5' := hk5.size
   refine Zoa rfl rfl<|Ze<|Zs<|Zr<|Zom rfl rfl<|Zoa rfl rfl<|Ze<|X.ret1 Zf119 Zr119 rfl ?_
   refine ⟨.inr ?_, (hk1.trans hk5)⟩
   have he : rapply x l = rwith (x.2.1, x.2.2) l := by rw [rapply]; simp only; rw [if_neg h14, if_pos (Classical.not_not.1 h7)]
   rw [he]
   exact (hM5).mono (fun q _ h => by (try simp only at h); omega)
  ·refine Ze<|Zf rfl<|Zk<|Zs<|Zr<|Zoms rfl rfl<|Zoas rfl rfl<|Ze<|X.ret1 Zf119 Zr119 rfl ?_
   exact ⟨.inl ⟨rfl, by rw [rapply]; simp only; rw [if_pos (Classical.not_not.1 h14), if_pos (Classical.not_not.1 h7)]⟩, hk1⟩
abbrev RF := List UInt8 × List UInt8 × List Int
structure RS where
  rm : Int
  fs : List RF
  dir : DIR
  fx : DIR
  chs : List CHG
  has : Bool
  left : Int
def KRp : Kd Nat := Kd.plain 1 (fun b => [.pointer (some ⟨b, 0, none⟩)]) (fun _ => True) (fun _ => rfl) (fun _ u hu => by simp at hu; subst hu; rfl)
theorem KRp_flat : Flat KRp := fun h => h
theorem repsRp {w : World} (x : Nat) : RepsV KRp w [x] [.pointer (some ⟨x, 0, none⟩)] := ⟨⟨_, rfl, rfl, trivial⟩, trivial⟩
theorem ERp : ElemInfo Tryz.prog 145 1 8 := ElemInfo.of (z := .pointer none) Zl rfl rfl rfl
abbrev rkL (rm : Int) (vF vD vX vC : Value) (has : Bool) (left : Int) : List Value := [.int .i64 rm, vF, vD, vX, vC, .bool has, .int .i64 left]
structure FlK (col : Nat → Nat) (w : World) (k p : Nat) (v1 v2 v3 : Value) (f : RF) : Prop where
  B : Blk w p [v1, v2, v3] 147
  c : col p = 4 + 3 * k
  M1 : Mine KB 5 (fun q => col q = 5 + 3 * k) 0 0 w v1 f.1
  M2 : Mine KB 5 (fun q => col q = 6 + 3 * k) 0 0 w v2 f.2.1
  M3 : Mine KI 3 (fun q => col q = 3) 0 0 w v3 f.2.2
structure RkB (col : Nat → Nat) (w : World) (x : Nat) (vF vD vX vC : Value) (pt : List Nat) (t : RS) : Prop where
  B : Blk w x (rkL t.rm vF vD vX vC t.has t.left) 134
  F : Mine KRp 145 (fun q => col q = 2) 0 0 w vF pt
  D : Mine KEn 192 (fun q => col q = 3) 0 0 w vD t.dir
  X : Mine KEn 192 (fun q => col q = 3) 0 0 w vX t.fx
  C : Mine KCh 150 (fun q => col q = 3) 0 0 w vC t.chs
  cx : col x = 1
  lt : ∀ q, col q ≠ 0 → q < w.heap.size
  pl : pt.length = t.fs.length
  fl : ∀ k p f, pt[k]? = some p → t.fs[k]? = some f → ∃ v1 v2 v3, FlK col w k p v1 v2 v3 f
def RkR (col : Nat → Nat) (w : World) (x : Nat) (t : RS) : Prop := ∃ vF vD vX vC pt, RkB col w x vF vD vX vC pt t
theorem RkB.r {col : Nat → Nat} {w : World} {x : Nat} {vF vD vX vC : Value} {pt : List Nat} {t : RS} (h : RkB col w x vF vD vX vC pt t) : RkR col w x t := ⟨vF, vD, vX, vC, pt, h⟩
structure RkP (V : Nat → Prop) (col : Nat → Nat) (w : World) (x : Nat) (vF vD vX vC : Value) (pt : List Nat) (t : RS) : Prop where
  B : ¬ V 1 → Blk w x (rkL t.rm vF vD vX vC t.has t.left) 134
  F : ¬ V 2 → Mine KRp 145 (fun q => col q = 2) 0 0 w vF pt
  D : ¬ V 3 → Mine KEn 192 (fun q => col q = 3) 0 0 w vD t.dir
  X : ¬ V 3 → Mine KEn 192 (fun q => col q = 3) 0 0 w vX t.fx
  C : ¬ V 3 → Mine KCh 150 (fun q => col q = 3) 0 0 w vC t.chs
  cx : col x = 1
  pl : pt.length = t.fs.length
  fl : ∀ k p f, pt[k]? = some p → t.fs[k]? = some f → ¬ V 3 → (∀ j, 4 + 3 * k ≤ j → j ≤ 6 + 3 * k → ¬ V j) → ∃ v1 v2 v3, FlK col w k p v1 v2 v3 f
section
variable {col col' : Nat → Nat} {w w' : World} {x : Nat} {vF vD vX vC : Value} {pt : List Nat} {t : RS}
theorem colr {α : Type} {K : Kd α} {e v0 : Nat} {v : Value} {xs : List α} (h : Mine K e (fun q => col q = v0) 0 0 w v xs) {T : Nat → Prop} (y : Ext T w w') (hc : ∀ q, q < w.heap.size → col' q = col q) (hT : ∀ q, q < w.heap.size → T q → col q ≠ v0) : Mine K e (fun q => col' q = v0) 0 0 w' v xs :=
  ((h.mono (T := fun q => col' q = v0 ∧ q < w.heap.size) (fun q hq h => ⟨(hc q hq).trans h, hq⟩)).ext y Zz (fun q hq ht => hT q hq.2 ht (by rw [← hc q hq.2]; exact hq.1))).mono (fun _ _ h => h.1)
theorem FlK.ext {k p : Nat} {v1 v2 v3 : Value} {f : RF} (h : FlK col w k p v1 v2 v3 f) {T : Nat → Prop} (y : Ext T w w') (hc : ∀ q, q < w.heap.size → col' q = col q) (hT : ∀ q, q < w.heap.size → T q → col q ≠ 3 ∧ col q ≠ 4 + 3 * k ∧ col q ≠ 5 + 3 * k ∧ col q ≠ 6 + 3 * k) : FlK col' w' k p v1 v2 v3 f :=
  ⟨h.B.ext y fun ht => (hT p h.B.lt ht).2.1 h.c, (hc p h.B.lt).trans h.c, colr h.M1 y hc fun q hq ht => (hT q hq ht).2.2.1, colr h.M2 y hc fun q hq ht => (hT q hq ht).2.2.2, colr h.M3 y hc fun q hq ht => (hT q hq ht).1⟩
theorem RkB.part (h : RkB col w x vF vD vX vC pt t) (V : Nat → Prop) {T : Nat → Prop} (y : Ext T w w') (hc : ∀ q, q < w.heap.size → col' q = col q) (hT : ∀ q, q < w.heap.size → T q → V (col q)) : RkP V col' w' x vF vD vX vC pt t := by
  have hk : ∀ v, ¬ V v → ∀ q, q < w.heap.size → T q → col q ≠ v := fun v hv q hq ht e => hv (by have := hT q hq ht; rwa [e] at this)
  refine ⟨fun v => h.B.ext y fun ht => hk 1 v _ h.B.lt ht h.cx, fun v => colr h.F y hc (hk 2 v), fun v => colr h.D y hc (hk 3 v), fun v => colr h.X y hc (hk 3 v), fun v => colr h.C y hc (hk 3 v), (hc x h.B.lt).trans h.cx, h.pl, fun k p f h1 h2 v3 hv => ?_⟩
  obtain ⟨a1, a2, a3, hf⟩ := h.fl k p f h1 h2
  exact ⟨a1, a2, a3, hf.ext y hc fun q hq ht => ⟨hk 3 v3 q hq ht, hk _ (hv _ Zz Zz) q hq ht, hk _ (hv _ Zz Zz) q hq ht, hk _ (hv _ Zz Zz) q hq ht⟩⟩
theorem RkB.ext (h : RkB col w x vF vD vX vC pt t) {T : Nat → Prop} (y : Ext T w w') (hT : ∀ q, col q ≠ 0 → ¬ T q) : RkB col w' x vF vD vX vC pt t := by
  have p := h.part (fun v => v = 0) y (fun _ _ => rfl) (fun q _ t => Classical.byContradiction fun e => hT q e t)
  exact ⟨p.B (by decide), p.F (by decide), p.D (by decide), p.X (by decide), p.C (by decide), p.cx, fun q hq => Nat.lt_of_lt_of_le (h.lt q hq) y.size, p.pl, fun k q f h1 h2 => p.fl k q f h1 h2 (by decide) (fun j _ _ => by omega)⟩
theorem RkB.keep (h : RkB col w x vF vD vX vC pt t) (y : Keep w w') : RkB col w' x vF vD vX vC pt t := h.ext y fun _ _ t => t
theorem RkR.ext (h : RkR col w x t) {T : Nat → Prop} (y : Ext T w w') (hT : ∀ q, col q ≠ 0 → ¬ T q) : RkR col w' x t := let ⟨vF, vD, vX, vC, pt, h⟩ := h; ⟨vF, vD, vX, vC, pt, h.ext y hT⟩
theorem RkR.keep (h : RkR col w x t) (y : Keep w w') : RkR col w' x t := h.ext y fun _ _ t => t
theorem RkR.lt (h : RkR col w x t) : ∀ q, col q ≠ 0 → q < w.heap.size := let ⟨_, _, _, _, _, h⟩ := h; h.lt
theorem RkR.cx (h : RkR col w x t) : col x = 1 := let ⟨_, _, _, _, _, h⟩ := h; h.cx
end
section
variable {col : Nat → Nat} {w w' : World} {x : Nat} {vF vD vX vC : Value} {pt : List Nat} {t : RS}
theorem RkB.set1 (h : RkB col w x vF vD vX vC pt t) (y : Ext (fun q => q = x) w w') {rm left : Int} {has : Bool} (hB : Blk w' x (rkL rm vF vD vX vC has left) 134) : RkB col w' x vF vD vX vC pt { t with rm := rm, has := has, left := left } := by
  have p := h.part (fun v => v = 1) y (fun _ _ => rfl) (fun q _ ht => by have ht : q = x := ht; rw [ht]; exact h.cx)
  exact ⟨hB, p.F (by decide), p.D (by decide), p.X (by decide), p.C (by decide), p.cx, fun q hq => Nat.lt_of_lt_of_le (h.lt q hq) y.size, p.pl, fun k q f h1 h2 => p.fl k q f h1 h2 (by decide) (fun j _ _ => by omega)⟩
end
def RS.down (t : RS) : Bool := t.has && decide (t.left = 0)
def RS.did (t : RS) : RS := { t with left := if t.has = true then t.left - 1 else t.left }
structure RS.Ok (t : RS) : Prop where
  rm : 1 ≤ t.rm ∧ t.rm ≤ 1048576
  dir : ∀ p, p ∈ t.dir → 0 ≤ p.2 ∧ p.2 < t.fs.length
  fx : ∀ p, p ∈ t.fx → 0 ≤ p.2 ∧ p.2 < t.fs.length
  chs : ∀ c, c ∈ t.chs → c.1 = ⟨#[]⟩ → 0 ≤ c.2.2 ∧ c.2.2 < t.fs.length
  fs : ∀ f, f ∈ t.fs → f.1.length ≤ 1048576 ∧ f.2.1.length ≤ 1048576 ∧ f.2.2.length ≤ 16384 ∧ ∀ s, s ∈ f.2.2 → 0 ≤ s ∧ s < 16384
  few : t.dir.length ≤ 256
  fewx : t.fx.length ≤ 256
  many : t.fs.length ≤ 50000 ∧ t.chs.length ≤ 50000
  left : 0 ≤ t.left ∧ t.left ≤ 1048576
theorem RDown_c {col : Nat → Nat} {x : Nat} {vF vD vX vC : Value} {pt : List Nat} {t : RS} (w : World) (h : RkB col w x vF vD vX vC pt t) : Ret Tryz.prog 73 #[ptrV x] w fun r w' => r = .bool t.down ∧ Keep w w' := by
 have hB := h.B
 refine X.enter Zf73 rfl Tryz.ntmps73 rfl<|Zs<|Zr<|Zoa rfl rfl<|Ze<|Zs<|Zr<|Zom rfl rfl<|Zo (X.nilCk rfl) rfl<|Zo (X.fldB (j := 5) Zu134 rfl rfl Zs4 rfl) rfl<|Zo (X.load1B Zi4 hB rfl rfl) rfl<|Zomo rfl rfl<|X.forkO 7 rfl (fun h7 => ?_) (fun h7 => ?_)
 ·refine Zg (X.move rfl) rfl rfl rfl rfl<|Zg (X.nilCk rfl) rfl rfl rfl rfl<|Zg (X.fldB (j := 6) Zu134 rfl rfl Zs3 rfl) rfl rfl rfl rfl<|Zg (X.load1B Zi3 hB rfl rfl) rfl rfl rfl rfl<|Zg (X.eqI rfl rfl) rfl rfl rfl rfl<|Zo (ZdTo rfl rfl) rfl<|Zoao rfl rfl<|Ze<|X.ret1 (v := (.bool _)) Zf73 Tryz.results73 rfl ?_
  exact ⟨by rw [RS.down, h7]; rfl, (Keep.refl _)⟩
 ·refine Zp rfl rfl rfl<|Zp rfl rfl rfl<|Zp rfl rfl rfl<|Zp rfl rfl rfl<|Zp rfl rfl rfl<|Zo (ZdFf rfl rfl) rfl<|Zoaf rfl rfl<|Ze<|X.ret1 (v := (.bool _)) Zf73 Tryz.results73 rfl ?_
  exact ⟨by rw [RS.down, h7]; rfl, (Keep.refl _)⟩
theorem Rdid_c {col : Nat → Nat} {x : Nat} {vF vD vX vC : Value} {pt : List Nat} {t : RS} (w : World) (h : RkB col w x vF vD vX vC pt t) (hl : -1 ≤ t.left ∧ t.left ≤ 1048576) : Ret Tryz.prog 77 #[ptrV x] w fun r w' => r = .int .i64 0 ∧ RkB col w' x vF vD vX vC pt t.did ∧ Ext (fun q => q = x) w w' := by
 have hB := h.B
 refine X.enter Zf77 rfl Tryz.ntmps77 rfl<|Zs<|Zr<|Zoa rfl rfl<|Ze<|Zs<|Zs<|Zr<|Zom rfl rfl<|Zo (X.nilCk rfl) rfl<|Zo (X.fldB (j := 5) Zu134 rfl rfl Zs4 rfl) rfl<|Zo (X.load1B Zi4 hB rfl rfl) rfl<|Ze<|X.condB rfl (fun hc => ?_) (fun hc => ?_)
 ·refine Zr<|Zom rfl rfl<|Zo (X.nilCk rfl) rfl<|Zo (X.fldB (j := 6) Zu134 rfl rfl Zs3 rfl) rfl<|Zo (X.load1B Zi3 hB rfl rfl) rfl<|Zo (X.sub rfl rfl (X.w_i64 Zz)) rfl<|Zo (X.nilCk rfl) rfl<|Zo (X.fldB (j := 6) Zu134 rfl rfl Zs3 rfl) rfl<|Zc (X.storeE Zs3 hB rfl rfl rfl rfl) rfl ?_
  rintro _ w1 ⟨hB1, hx1, hz1⟩
  refine Ze<|Zs<|Zr<|Zoa rfl rfl<|Ze<|X.ret1 (v := (.int .i64 _)) Zf77 Tryz.results77 rfl ?_
  have e : t.did = { t with rm := t.rm, has := t.has, left := t.left - 1 } := by rw [RS.did, if_pos hc]
  rw [e]
  exact ⟨rfl, h.set1 hx1 hB1, hx1⟩
 ·refine Zk<|Zs<|Zr<|Zoa rfl rfl<|Ze<|X.ret1 (v := (.int .i64 _)) Zf77 Tryz.results77 rfl ?_
  have e : t.did = t := by rw [RS.did, if_neg (by rw [hc]; decide)]
  rw [e]
  exact ⟨rfl, h.keep (Keep.refl _), ((Keep.refl _)).mono (fun _ _ h => h.elim)⟩
theorem Rsectors_c (n : Nat) (w : World) (hn : n ≤ 1000000000) : Ret Tryz.prog 121 #[.int .i64 (n : Int)] w fun r w' => r = .int .i64 (((n + 63) / 64 : Nat) : Int) ∧ Keep w w' := by
 refine X.enter Tryz.func121 rfl Tryz.ntmps121 rfl<|Zs<|Zr<|Zoa rfl rfl<|Ze<|Zs<|Zr<|Zomi rfl rfl<|Zo (X.add rfl rfl (X.w_i64 Zz)) rfl<|Zo (X.sub rfl rfl (X.w_i64 Zz)) rfl<|Zo (X.quo (c := (((n + 63) / 64 : Nat) : Int)) rfl rfl (by decide) (by rw [show ((n : Int) + 64 - 1).tdiv 64 = (((n + 63) / 64 : Nat) : Int) by rw [show (n : Int) + 64 - 1 = ((n + 63 : Nat) : Int) by omega]; rfl]; exact X.w_i64 Zz)) rfl ?_
 refine Zoai rfl rfl<|Ze<|X.ret1 (v := (.int .i64 _)) Tryz.func121 Tryz.results121 rfl ?_
 exact ⟨rfl, (Keep.refl _)⟩
theorem m0 {α : Type} {K : Kd α} (hF : Flat K) {e : TypeId} {S : Nat → Prop} {w : World} {A : Option Addr} {n c : Nat} {xs : List α} (h : Mine K e S 0 0 w (.slice A n c) xs) : Sl K 0 w.heap.size w A n xs := by
  obtain ⟨A', c', e1, _, hs⟩ := h.slF hF 0 (fun _ _ => Nat.zero_le _)
  injection e1 with q1 q2 q3
  rw [← q1, ← q2] at hs
  exact hs
def RS.note (c : CHG) (t : RS) : RS := { t with dir := rapply c t.dir, chs := t.chs ++ [c] }
theorem change_c {col : Nat → Nat} {x : Nat} {vF vD vX vC : Value} {pt : List Nat} {t : RS} (c : CHG) (w : World) (h : RkB col w x vF vD vX vC pt t) (hn : t.dir.length ≤ 10000 ∧ t.chs.length ≤ 100000) : Ret Tryz.prog 76 #[ptrV x, evCh c] w fun r w' => r = .tuple #[] ∧ ∃ vD' vC' col', (∀ q, q < w.heap.size → col' q = col q) ∧ (∀ q, w.heap.size ≤ q → q < w'.heap.size → col' q = 3) ∧ RkB col' w' x vF vD' vX vC' pt (t.note c) ∧ Ext (fun q => q = x) w w' := by
 obtain ⟨AD, cD, e, hcD, hsD⟩ := h.D.slF KEn_flat 0 (fun _ _ => Nat.zero_le _)
 subst e
 obtain ⟨AC, cC, e, hcC, hsC⟩ := h.C.slF KCh_flat 0 (fun _ _ => Nat.zero_le _)
 subst e
 obtain ⟨AF, cF, e, hcF, hsF⟩ := h.F.slF KRp_flat 0 (fun _ _ => Nat.zero_le _)
 subst e
 have hB := h.B
 have hxl := h.B.lt
 have hlt := h.lt
 have hcx := h.cx
 refine X.enter Zf76 rfl Tryz.ntmps76 rfl<|Zs<|Zr<|Zc (X.boxE rfl rfl) rfl ?_
 rintro _ w1 ⟨rfl, hB1, hk1, hz1⟩
 refine Ze<|Zs<|X.regionD (fun k => w1.heap.size ≤ k) 7 Zl Zl (fun w2 hk2 hz2 => ?_)
 refine ZDc 0 rfl Zl (X.move rfl)<|ZDc 1 rfl Zl (X.move rfl)<|ZDc 2 rfl Zl (X.nilCk rfl)<|ZDc 3 rfl Zl (X.fldB (j := 2) Zu134 rfl rfl Zs131 rfl)<|ZD 4 rfl Zl (fun w' hk' => X.load1B Zi131 ((hB.keep (hk1.trans hk2)).ext hk' zq9) rfl rfl) ?_
 refine ZD 5 rfl Zl (fun w' hk' => X.loadNB Tryz.isAgg150 Zs150 ((hB1.keep hk2).ext hk' zq9) rfl rfl rfl) ?_
 refine X.dE (i := 6) Zl rfl (X.dwN rfl) (X.callE (apply_c c _ (hsD.keep (hk1.trans hk2)) Zz) Tryz.call119 rfl rfl) (by rintro vA w3 ⟨hA, hk3⟩ _; exact hk3.mono (fun _ _ h => h.elim)) ?_
 rintro vA w3 ⟨hA, hk3⟩
 have hk3' := hk3.size
 refine X.dStep (i := 7) Zl rfl (X.dwN rfl) (X.nilCk rfl) (fun h => absurd h (by decide))<|X.dStep (i := 8) Zl rfl (X.dwN rfl) (X.fldB (j := 2) Zu134 rfl rfl Zs131 rfl) (fun h => absurd h (by decide))<|X.dE (i := 9) Zl rfl (X.dwN rfl) (X.storeE Zs131 (hB.keep ((hk1.trans hk2).trans hk3)) rfl rfl rfl (hA.elim (fun h => by rw [h.1]; rfl) (fun h => by obtain ⟨A', c', e, _⟩ := h.slice; rw [e]; rfl))) (fun _ _ _ h => absurd h (by decide)) ?_
 rintro _ w4 ⟨hB4, hx4, hz4⟩
 refine Zdend Zl<|X.regionD (fun k => w4.heap.size ≤ k) 10 Zl Zl (fun w5 hk5 hz5 => ?_)
 refine ZDc 0 rfl Zl (X.move rfl)<|ZDc 2 rfl Zl (X.move rfl)<|ZDc 3 rfl Zl (X.nilCk rfl)<|ZDc 4 rfl Zl (X.fldB (j := 4) Zu134 rfl rfl Zs132 rfl)<|ZD 5 rfl Zl (fun w' hk' => X.load1B Tryz.isAgg132 ((hB4.keep hk5).ext hk' zq9) rfl rfl) ?_
 refine ZD 7 rfl Zl (fun w' hk' => X.loadNB Tryz.isAgg150 Zs150 ((((hB1.keep (hk2.trans hk3)).ext hx4 zq9).keep hk5).ext hk' zq9) rfl rfl rfl) ?_
 refine X.dTwo (i := 1) (j := 8) Zl ?_ ?_
 ·refine X.d1E (i := 1) rfl (X.dwN rfl) (X.lit0E (K := KCh) (S := fun k => w5.heap.size ≤ k) Zu132 Zs150 zq34) (by rintro v6 w6 ⟨hM6, hk6, hz6⟩ _; exact hk6.mono (fun _ _ h => h.elim)) ?_
  rintro v6 w6 ⟨hM6, hk6, hz6⟩
  refine X.dTwo (i := 6) (j := 8) Zl ?_ ?_
  ·refine X.d1E (i := 6) rfl (X.dwN rfl) (X.appE (K := KCh) (S := fun k => w5.heap.size ≤ k) KCh_flat Zu132 ERc rfl rfl hM6 ((m0 KCh_flat (((((h.C.keep hk1).keep hk2).keep hk3).ext hx4 (by intros; omega) zq20).keep hk5)).keep hk6) zq15 zq34) (by rintro v7 w7 ⟨hM7, hx7⟩ _; exact hx7.mono (fun k _ h => by (try simp only [] at *); omega)) ?_
   rintro v7 w7 ⟨hM7, hx7⟩
   have hx7' := hx7.size
   refine X.dE (i := 8) Zl rfl (X.dwN rfl) (X.litKF KCh_flat (K := KCh) (xs := [Operand.tmp 20]) (vs := [evCh c]) (ys := [c]) Zu132 Zs150 Zv150 rfl rfl rfl rfl rfl (repsCh _)) (by rintro _ w8 ⟨rfl, hs8, hB8, hk8, hz8⟩ _; exact hk8.mono (fun _ _ h => h.elim)) ?_
   rintro _ w8 ⟨rfl, hs8, hB8, hk8, hz8⟩
   refine X.dE (i := 9) Zl rfl (X.dwN rfl) (X.appE (K := KCh) (S := fun k => w5.heap.size ≤ k) KCh_flat Zu132 ERc rfl rfl (Mine.mono (T := fun k => w5.heap.size ≤ k) (hM7.keep hk8) (fun k h1 h2 => by (try simp only [] at *); omega)) hs8 zq15 zq34) (by rintro v9 w9 ⟨hM9, hx9⟩ _; exact hx9.mono (fun k _ h => by (try simp only [] at *); omega)) ?_
   rintro v9 w9 ⟨hM9, hx9⟩
   have hx9' := hx9.size
   refine X.dStep (i := 10) Zl rfl (X.dwN rfl) (X.nilCk rfl) (fun h => absurd h (by decide))<|X.dStep (i := 11) Zl rfl (X.dwN rfl) (X.fldB (j := 4) Zu134 rfl rfl Zs132 rfl) (fun h => absurd h (by decide)) ?_
   have q10 := hM9.slF KCh_flat 0 (fun _ _ => Nat.zero_le _)
   obtain ⟨A10, c10, rfl, hc10, hs10⟩ := q10
   refine X.dE (i := 12) Zl rfl (X.dwN rfl) (X.storeE Zs132 (hB4.keep ((((hk5.trans hk6).step hx7 zq34).trans hk8).step hx9 zq34)) rfl rfl rfl (by obtain ⟨A', c', e, _⟩ := (hM9).slice; rw [e]; rfl)) (fun _ _ _ h => absurd h (by decide)) ?_
   rintro _ w11 ⟨hB11, hx11, hz11⟩
   refine Zdend Zl<|X.end0 Zf76 Zr76 ?_
   have hx : Ext (fun q => col q = 1) w w11 := (Ext.andThen (Ext.andThen (Ext.andThen (Ext.andThen (Ext.andThen (Ext.andThen (Ext.andThen (Ext.andThen (Ext.andThen (Ext.andThen (Ext.refl (fun q => col q = 1) _) hk1 zq8) hk2 zq8) hk3 zq8) hx4 zq8) hk5 zq8) hk6 zq8) hx7 zq8) hk8 zq8) hx9 zq8) hx11 zq8)
   have hxs := hx.size
   obtain ⟨col', hcol⟩ : ∃ col', col' = rec' col w.heap.size w11.heap.size (3) := ⟨_, rfl⟩
   have hold : ∀ q, q < w.heap.size → col' q = col q := fun q hq => by rw [hcol]; exact rec_old hq
   have hnew : ∀ q, w.heap.size ≤ q → q < w11.heap.size → col' q = 3 := fun q h1 h2 => by rw [hcol]; exact rec_new h1 h2
   have hltc : ∀ q, col' q ≠ 0 → q < w11.heap.size := fun q hq => by rw [hcol] at hq; exact rec_lt hlt hxs hq
   have P := h.part (col' := col') (fun v => v = 1) hx hold (fun q hq ht => ht)
   have hst : Stp col w col' w11 := ⟨hold, hx.mono (fun q _ t => by (try simp only [] at t); omega)⟩
   have hD' : Mine KEn 192 (fun q => col' q = 3) 0 0 w11 vA (rapply c t.dir) := by
     rcases hA with ⟨e1, e2⟩ | hMA
     ·rw [e1, e2]; exact P.D (by decide)
     ·exact (((((((((hMA.mono (T := fun q => w.heap.size ≤ q ∧ q < w3.heap.size) (fun q hq hS => ⟨by (have hS : _ ≤ q := hS); omega, hq⟩)).ext hx4 (by intros; omega) zq20).keep hk5).keep hk6).ext hx7 (by intros; omega) zq20).keep hk8).ext hx9 (by intros; omega) zq20).ext hx11 (by intros; omega) zq20)).mono (fun q hq hS => hnew q hS.1 hq)
   refine ⟨rfl, _, _, col', hold, hnew, ⟨hB11, P.F (by decide), hD', P.X (by decide), ((hM9.ext hx11 zq9 zq9)).mono (fun q hq hS => hnew q (by have hS : _ ≤ q := hS; omega) hq), P.cx, hltc, P.pl, fun k p f h1 h2 => P.fl k p f h1 h2 (by decide) (fun j _ _ => by omega)⟩, (Ext.andThen (Ext.andThen (Ext.andThen (Ext.andThen (Ext.andThen (Ext.andThen (Ext.andThen (Ext.andThen (Ext.andThen (Ext.andThen (Ext.refl (fun q => q = x) _) hk1 zq30) hk2 zq30) hk3 zq30) hx4 zq30) hk5 zq30) hk6 zq30) hx7 zq30) hk8 zq30) hx9 zq30) hx11 zq30)⟩
  ·refine X.d1E (i := 8) rfl (X.dwN rfl) (X.litKF KCh_flat (K := KCh) (xs := [Operand.tmp 20]) (vs := [evCh c]) (ys := [c]) Zu132 Zs150 Zv150 rfl rfl rfl rfl rfl (repsCh _)) (by rintro _ w12 ⟨rfl, hs12, hB12, hk12, hz12⟩ _; exact hk12.mono (fun _ _ h => h.elim)) ?_
   rintro _ w12 ⟨rfl, hs12, hB12, hk12, hz12⟩
   refine X.dE (i := 6) Zl rfl (X.dwN rfl) (X.appE (K := KCh) (S := fun k => w5.heap.size ≤ k ∧ k ≠ w6.heap.size) KCh_flat Zu132 ERc rfl rfl ((Mine.mono (T := fun k => w5.heap.size ≤ k ∧ k ≠ w6.heap.size) hM6 (fun k h1 h2 => by (try simp only [] at *); omega)).keep hk12) ((m0 KCh_flat (((((h.C.keep hk1).keep hk2).keep hk3).ext hx4 (by intros; omega) zq20).keep hk5)).keep (hk6.trans hk12)) zq15 zq34) (by rintro v13 w13 ⟨hM13, hx13⟩ _; exact hx13.mono (fun k _ h => by (try simp only [] at *); omega)) ?_
   rintro v13 w13 ⟨hM13, hx13⟩
   replace hM13 := Mine.mono (T := fun k => w5.heap.size ≤ k) hM13 (fun k _ h => by (try simp only [] at *); omega)
   have hx13' := hx13.size
   refine X.dE (i := 9) Zl rfl (X.dwN rfl) (X.appE (K := KCh) (S := fun k => w5.heap.size ≤ k) KCh_flat Zu132 ERc rfl rfl (Mine.mono (T := fun k => w5.heap.size ≤ k) hM13 (fun k h1 h2 => by (try simp only [] at *); omega)) (hs12.ext hx13 zq9) zq15 zq34) (by rintro v14 w14 ⟨hM14, hx14⟩ _; exact hx14.mono (fun k _ h => by (try simp only [] at *); omega)) ?_
   rintro v14 w14 ⟨hM14, hx14⟩
   have hx14' := hx14.size
   refine X.dStep (i := 10) Zl rfl (X.dwN rfl) (X.nilCk rfl) (fun h => absurd h (by decide))<|X.dStep (i := 11) Zl rfl (X.dwN rfl) (X.fldB (j := 4) Zu134 rfl rfl Zs132 rfl) (fun h => absurd h (by decide)) ?_
   have q15 := hM14.slF KCh_flat 0 (fun _ _ => Nat.zero_le _)
   obtain ⟨A15, c15, rfl, hc15, hs15⟩ := q15
   refine X.dE (i := 12) Zl rfl (X.dwN rfl) (X.storeE Zs132 (hB4.keep ((((hk5.trans hk6).trans hk12).step hx13 zq34).step hx14 zq34)) rfl rfl rfl (by obtain ⟨A', c', e, _⟩ := (hM14).slice; rw [e]; rfl)) (fun _ _ _ h => absurd h (by decide)) ?_
   rintro _ w16 ⟨hB16, hx16, hz16⟩
   refine Zdend Zl<|X.end0 Zf76 Zr76 ?_
   have hx : Ext (fun q => col q = 1) w w16 := (Ext.andThen (Ext.andThen (Ext.andThen (Ext.andThen (Ext.andThen (Ext.andThen (Ext.andThen (Ext.andThen (Ext.andThen (Ext.andThen (Ext.refl (fun q => col q = 1) _) hk1 zq8) hk2 zq8) hk3 zq8) hx4 zq8) hk5 zq8) hk6 zq8) hk12 zq8) hx13 zq8) hx14 zq8) hx16 zq8)
   have hxs := hx.size
   obtain ⟨col', hcol⟩ : ∃ col', col' = rec' col w.heap.size w16.heap.size (3) := ⟨_, rfl⟩
   have hold : ∀ q, q < w.heap.size → col' q = col q := fun q hq => by rw [hcol]; exact rec_old hq
   have hnew : ∀ q, w.heap.size ≤ q → q < w16.heap.size → col' q = 3 := fun q h1 h2 => by rw [hcol]; exact rec_new h1 h2
   have hltc : ∀ q, col' q ≠ 0 → q < w16.heap.size := fun q hq => by rw [hcol] at hq; exact rec_lt hlt hxs hq
   have P := h.part (col' := col') (fun v => v = 1) hx hold (fun q hq ht => ht)
   have hst : Stp col w col' w16 := ⟨hold, hx.mono (fun q _ t => by (try simp only [] at t); omega)⟩
   have hD' : Mine KEn 192 (fun q => col' q = 3) 0 0 w16 vA (rapply c t.dir) := by
     rcases hA with ⟨e1, e2⟩ | hMA
     ·rw [e1, e2]; exact P.D (by decide)
     ·exact (((((((((hMA.mono (T := fun q => w.heap.size ≤ q ∧ q < w3.heap.size) (fun q hq hS => ⟨by (have hS : _ ≤ q := hS); omega, hq⟩)).ext hx4 (by intros; omega) zq20).keep hk5).keep hk6).keep hk12).ext hx13 (by intros; omega) zq20).ext hx14 (by intros; omega) zq20).ext hx16 (by intros; omega) zq20)).mono (fun q hq hS => hnew q hS.1 hq)
   refine ⟨rfl, _, _, col', hold, hnew, ⟨hB16, P.F (by decide), hD', P.X (by decide), ((hM14.ext hx16 zq9 zq9)).mono (fun q hq hS => hnew q (by have hS : _ ≤ q := hS; omega) hq), P.cx, hltc, P.pl, fun k p f h1 h2 => P.fl k p f h1 h2 (by decide) (fun j _ _ => by omega)⟩, (Ext.andThen (Ext.andThen (Ext.andThen (Ext.andThen (Ext.andThen (Ext.andThen (Ext.andThen (Ext.andThen (Ext.andThen (Ext.andThen (Ext.refl (fun q => q = x) _) hk1 zq30) hk2 zq30) hk3 zq30) hx4 zq30) hk5 zq30) hk6 zq30) hk12 zq30) hx13 zq30) hx14 zq30) hx16 zq30)⟩
 ·refine X.d1E (i := 8) rfl (X.dwN rfl) (X.litKF KCh_flat (K := KCh) (xs := [Operand.tmp 20]) (vs := [evCh c]) (ys := [c]) Zu132 Zs150 Zv150 rfl rfl rfl rfl rfl (repsCh _)) (by rintro _ w17 ⟨rfl, hs17, hB17, hk17, hz17⟩ _; exact hk17.mono (fun _ _ h => h.elim)) ?_
  rintro _ w17 ⟨rfl, hs17, hB17, hk17, hz17⟩
  refine X.dE (i := 1) Zl rfl (X.dwN rfl) (X.lit0E (K := KCh) (S := fun k => w17.heap.size ≤ k) Zu132 Zs150 zq34) (by rintro v18 w18 ⟨hM18, hk18, hz18⟩ _; exact hk18.mono (fun _ _ h => h.elim)) ?_
  rintro v18 w18 ⟨hM18, hk18, hz18⟩
  refine X.dE (i := 6) Zl rfl (X.dwN rfl) (X.appE (K := KCh) (S := fun k => w17.heap.size ≤ k) KCh_flat Zu132 ERc rfl rfl hM18 ((m0 KCh_flat (((((h.C.keep hk1).keep hk2).keep hk3).ext hx4 (by intros; omega) zq20).keep hk5)).keep (hk17.trans hk18)) zq15 zq34) (by rintro v19 w19 ⟨hM19, hx19⟩ _; exact hx19.mono (fun k _ h => by (try simp only [] at *); omega)) ?_
  rintro v19 w19 ⟨hM19, hx19⟩
  have hx19' := hx19.size
  refine X.dE (i := 9) Zl rfl (X.dwN rfl) (X.appE (K := KCh) (S := fun k => w17.heap.size ≤ k) KCh_flat Zu132 ERc rfl rfl (Mine.mono (T := fun k => w17.heap.size ≤ k) hM19 (fun k h1 h2 => by (try simp only [] at *); omega)) (hs17.keep (hk18.step hx19 zq34)) zq15 zq34) (by rintro v20 w20 ⟨hM20, hx20⟩ _; exact hx20.mono (fun k _ h => by (try simp only [] at *); omega)) ?_
  rintro v20 w20 ⟨hM20, hx20⟩
  have hx20' := hx20.size
  refine X.dStep (i := 10) Zl rfl (X.dwN rfl) (X.nilCk rfl) (fun h => absurd h (by decide))<|X.dStep (i := 11) Zl rfl (X.dwN rfl) (X.fldB (j := 4) Zu134 rfl rfl Zs132 rfl) (fun h => absurd h (by decide)) ?_
  have q21 := hM20.slF KCh_flat 0 (fun _ _ => Nat.zero_le _)
  obtain ⟨A21, c21, rfl, hc21, hs21⟩ := q21
  refine X.dE (i := 12) Zl rfl (X.dwN rfl) (X.storeE Zs132 (hB4.keep ((((hk5.trans hk17).trans hk18).step hx19 zq34).step hx20 zq34)) rfl rfl rfl (by obtain ⟨A', c', e, _⟩ := (hM20).slice; rw [e]; rfl)) (fun _ _ _ h => absurd h (by decide)) ?_
  rintro _ w22 ⟨hB22, hx22, hz22⟩
  refine Zdend Zl<|X.end0 Zf76 Zr76 ?_
  have hx : Ext (fun q => col q = 1) w w22 := (Ext.andThen (Ext.andThen (Ext.andThen (Ext.andThen (Ext.andThen (Ext.andThen (Ext.andThen (Ext.andThen (Ext.andThen (Ext.andThen (Ext.refl (fun q => col q = 1) _) hk1 zq8) hk2 zq8) hk3 zq8) hx4 zq8) hk5 zq8) hk17 zq8) hk18 zq8) hx19 zq8) hx20 zq8) hx22 zq8)
  have hxs := hx.size
  obtain ⟨col', hcol⟩ : ∃ col', col' = rec' col w.heap.size w22.heap.size (3) := ⟨_, rfl⟩
  have hold : ∀ q, q < w.heap.size → col' q = col q := fun q hq => by rw [hcol]; exact rec_old hq
  have hnew : ∀ q, w.heap.size ≤ q → q < w22.heap.size → col' q = 3 := fun q h1 h2 => by rw [hcol]; exact rec_new h1 h2
  have hltc : ∀ q, col' q ≠ 0 → q < w22.heap.size := fun q hq => by rw [hcol] at hq; exact rec_lt hlt hxs hq
  have P := h.part (col' := col') (fun v => v = 1) hx hold (fun q hq ht => ht)
  have hst : Stp col w col' w22 := ⟨hold, hx.mono (fun q _ t => by (try simp only [] at t); omega)⟩
  have hD' : Mine KEn 192 (fun q => col' q = 3) 0 0 w22 vA (rapply c t.dir) := by
    rcases hA with ⟨e1, e2⟩ | hMA
    ·rw [e1, e2]; exact P.D (by decide)
    ·exact (((((((((hMA.mono (T := fun q => w.heap.size ≤ q ∧ q < w3.heap.size) (fun q hq hS => ⟨by (have hS : _ ≤ q := hS); omega, hq⟩)).ext hx4 (by intros; omega) zq20).keep hk5).keep hk17).keep hk18).ext hx19 (by intros; omega) zq20).ext hx20 (by intros; omega) zq20).ext hx22 (by intros; omega) zq20)).mono (fun q hq hS => hnew q hS.1 hq)
  refine ⟨rfl, _, _, col', hold, hnew, ⟨hB22, P.F (by decide), hD', P.X (by decide), ((hM20.ext hx22 zq9 zq9)).mono (fun q hq hS => hnew q (by have hS : _ ≤ q := hS; omega) hq), P.cx, hltc, P.pl, fun k p f h1 h2 => P.fl k p f h1 h2 (by decide) (fun j _ _ => by omega)⟩, (Ext.andThen (Ext.andThen (Ext.andThen (Ext.andThen (Ext.andThen (Ext.andThen (Ext.andThen (Ext.andThen (Ext.andThen (Ext.andThen (Ext.refl (fun q => q = x) _) hk1 zq30) hk2 zq30) hk3 zq30) hx4 zq30) hk5 zq30) hk17 zq30) hk18 zq30) hx19 zq30) hx20 zq30) hx22 zq30)⟩
def RS.delete (nm : ByteArray) (t : RS) : Int × RS := if t.down = true then (54, t) else if rfind nm t.dir < 0 then (52, t) else (0, (t.note (nm, ⟨#[]⟩, 0)).did)
def RS.fuse (n : Int) (t : RS) : Int × RS := if n < 0 ∨ 1048576 < n then (5, t) else (0, { t with has := true, left := n })
def RS.create (nm : ByteArray) (t : RS) : Int × RS := if t.down = true then (54, t) else if isNm nm = false then (51, t) else if 0 ≤ rfind nm t.dir then (50, t) else if 256 ≤ t.dir.length then (3, t)
  else (0, (({ t with fs := t.fs ++ [([], [], [])] } : RS).note (⟨#[]⟩, nm, (t.fs.length : Int))).did)
theorem RCreate_c {col : Nat → Nat} {x : Nat} {vF vD vX vC : Value} {pt : List Nat} {t : RS} (nm : ByteArray) (w : World) (h : RkB col w x vF vD vX vC pt t) (hok : t.Ok) (hmn : t.fs.length < 50000 ∧ t.chs.length < 50000) : Ret Tryz.prog 32 #[ptrV x, .string nm] w fun r w' => r = .int .i64 (t.create nm).1 ∧ ∃ col', RkR col' w' x (t.create nm).2 ∧ Stp col w col' w' := by
 obtain ⟨AD, cD, e, hcD, hsD⟩ := h.D.slF KEn_flat 0 (fun _ _ => Nat.zero_le _)
 subst e
 obtain ⟨AC, cC, e, hcC, hsC⟩ := h.C.slF KCh_flat 0 (fun _ _ => Nat.zero_le _)
 subst e
 obtain ⟨AF, cF, e, hcF, hsF⟩ := h.F.slF KRp_flat 0 (fun _ _ => Nat.zero_le _)
 subst e
 have hB := h.B
 have hxl := h.B.lt
 have hlt := h.lt
 have hcx := h.cx
 have hok1 := hok.few
 have hok2 := hok.many
 have hok3 := hok.left
 have hplx := h.pl
 refine X.enter Zf32 rfl Tryz.ntmps32 rfl<|Zs<|Zr<|Zoa rfl rfl<|Ze<|Zs<|Zb<|Zs<|Zr<|Zom rfl rfl<|Zc (X.callE (RDown_c _ (h.keep (Keep.refl _))) Zc73 rfl rfl) rfl ?_
 rintro _ w1 ⟨rfl, hk1⟩
 have hk1' := hk1.size
 refine Zoao rfl rfl<|Ze<|X.condB rfl (fun hd => ?_) (fun hd => ?_)
 ·refine Zs<|Zr<|Zoa rfl rfl<|Ze<|X.ret1 (v := (.int .i64 _)) Zf32 Zr32 rfl ?_
  have e : t.create nm = (54, t) := by simp only [RS.create, if_pos hd]
  rw [e]
  exact ⟨rfl, col, (h.keep hk1).r, Stp.keep hk1⟩
 ·refine Zs<|Zr<|Zomg rfl rfl<|Zc (X.callE (IsName_c _ _) Tryz.call74 rfl rfl) rfl ?_
  rintro _ w2 ⟨rfl, hk2⟩
  have hk2' := hk2.size
  refine Zo (X.not_ rfl) rfl<|Zoao rfl rfl<|Ze<|X.condB rfl (fun hn => ?_) (fun hn => ?_)
  ·refine Zs<|Zr<|Zoa rfl rfl<|Ze<|X.ret1 (v := (.int .i64 _)) Zf32 Zr32 rfl ?_
   have e : t.create nm = (51, t) := by simp only [RS.create, if_neg (show ¬ t.down = true by rw [hd]; decide), if_pos (show isNm nm = false by simpa using hn)]
   rw [e]
   exact ⟨rfl, col, (h.keep (hk1.trans hk2)).r, Stp.keep (hk1.trans hk2)⟩
  ·refine Zs<|Zr<|Zom rfl rfl<|Zo (X.nilCk rfl) rfl<|Zo (X.fldB (j := 2) Zu134 rfl rfl Zs131 rfl) rfl<|Zo (X.load1B Zi131 (hB.keep (hk1.trans hk2)) rfl rfl) rfl<|Zomg rfl rfl<|Zc (X.callE (Find_c nm _ (hsD.keep (hk1.trans hk2)) Zz) Zc75 rfl rfl) rfl ?_
   rintro _ w3 ⟨rfl, hk3⟩
   have hk3' := hk3.size
   refine X.opP X.wN rfl rfl (X.geq rfl rfl) (fun h19 => ?_) (fun h19 => ?_)
   ·refine Zoat rfl rfl<|Ze<|Zt rfl<|Zs<|Zr<|Zoa rfl rfl<|Ze<|X.ret1 (v := (.int .i64 _)) Zf32 Zr32 rfl ?_
    have e : t.create nm = (50, t) := by simp only [RS.create, if_neg (show ¬ t.down = true by rw [hd]; decide), if_neg (show ¬ isNm nm = false by simpa using hn), if_pos (show 0 ≤ rfind nm t.dir by omega)]
    rw [e]
    exact ⟨rfl, col, (h.keep ((hk1.trans hk2).trans hk3)).r, Stp.keep ((hk1.trans hk2).trans hk3)⟩
   ·refine Zoaf rfl rfl<|Ze<|Zf rfl<|Zs<|Zr<|Zom rfl rfl<|Zo (X.nilCk rfl) rfl<|Zo (X.fldB (j := 2) Zu134 rfl rfl Zs131 rfl) rfl<|Zo (X.load1B Zi131 (hB.keep ((hk1.trans hk2).trans hk3)) rfl rfl) rfl<|Zo (X.lenSl Zu131 rfl) rfl<|X.opP X.wN rfl rfl (X.geq rfl rfl) (fun h26 => ?_) (fun h26 => ?_)
    ·refine Zoat rfl rfl<|Ze<|Zt rfl<|Zs<|Zr<|Zoa rfl rfl<|Ze<|X.ret1 (v := (.int .i64 _)) Zf32 Zr32 rfl ?_
     have e : t.create nm = (3, t) := by simp only [RS.create, if_neg (show ¬ t.down = true by rw [hd]; decide), if_neg (show ¬ isNm nm = false by simpa using hn), if_neg (show ¬ 0 ≤ rfind nm t.dir by omega), if_pos (show 256 ≤ t.dir.length by omega)]
     rw [e]
     exact ⟨rfl, col, (h.keep ((hk1.trans hk2).trans hk3)).r, Stp.keep ((hk1.trans hk2).trans hk3)⟩
    ·refine Zoaf rfl rfl<|Ze<|Zf rfl<|Zk<|Zi<|Zs<|Zr<|Zom rfl rfl<|Zom rfl rfl<|Zo (X.nilCk rfl) rfl<|Zo (X.fldB (j := 1) Zu134 rfl rfl Zs130 rfl) rfl<|Zo (X.load1B Zi130 (hB.keep ((hk1.trans hk2).trans hk3)) rfl rfl) rfl<|Zo (X.buildB (vs := []) (cs := #[.slice none 0 0, .slice none 0 0, .slice none 0 0]) rfl Zl) rfl<|Zc (X.boxE rfl rfl) rfl ?_
     rintro _ w4 ⟨rfl, hB4, hk4, hz4⟩
     refine Zc (X.litKF KRp_flat (K := KRp) (xs := [Operand.tmp 33]) (vs := [.pointer (some ⟨w3.heap.size, 0, none⟩)]) (ys := [w3.heap.size]) Zu130 Zs145 Tryz.zeroValue145 rfl rfl rfl rfl rfl (repsRp _)) rfl ?_
     rintro _ w5 ⟨rfl, hs5, hB5, hk5, hz5⟩
     refine Zc (X.appE (K := KRp) (S := fun q => col q = 2 ∨ w5.heap.size ≤ q) KRp_flat Zu130 ERp rfl rfl (Mine.mono (T := fun q => col q = 2 ∨ w5.heap.size ≤ q) (((((h.F.keep hk1).keep hk2).keep hk3).keep hk4).keep hk5) (fun q _ h => .inl h)) hs5 zq15 (by intros; right; omega)) rfl ?_
     rintro vF' w6 ⟨hMf, hx6⟩
     have hx6' := hx6.size
     refine Zo (X.nilCk rfl) rfl<|Zo (X.fldB (j := 1) Zu134 rfl rfl Zs130 rfl) rfl ?_
     have q7 := hMf.slF KRp_flat 0 (fun _ _ => Nat.zero_le _)
     obtain ⟨A7, c7, rfl, hc7, hs7⟩ := q7
     refine Zc (X.storeE Zs130 ((hB.keep ((((hk1.trans hk2).trans hk3).trans hk4).trans hk5)).ext hx6 zq6) rfl rfl rfl (by obtain ⟨A', c', e, _⟩ := hMf.slice; rw [e]; rfl)) rfl ?_
     rintro _ w8 ⟨hB8, hx8, hz8⟩
     refine Ze<|Zs<|Zr<|Zom rfl rfl<|Zomg rfl rfl<|Zom rfl rfl<|Zo (X.nilCk rfl) rfl<|Zo (X.fldB (j := 1) Zu134 rfl rfl Zs130 rfl) rfl<|Zo (X.load1B Zi130 hB8 rfl rfl) rfl<|Zo (X.lenSl Zu130 rfl) rfl<|Zo (X.sub (c := (t.fs.length : Int)) rfl rfl (by rw [show ((pt ++ [w3.heap.size]).length : Int) - 1 = (t.fs.length : Int) by rw [List.length_append, List.length_singleton]; omega]; exact X.w_i64 Zz)) rfl ?_
     refine Zo (X.buildB (vs := [(1, .string nm), (2, .int .i64 (t.fs.length : Int))]) (cs := #[.string ⟨#[]⟩, .string nm, .int .i64 (t.fs.length : Int)]) rfl Zl) rfl ?_
     have hbf1 : w.heap.size ≤ w3.heap.size ∧ w3.heap.size < w8.heap.size := ⟨by omega, ((((hB4.keep hk5).ext hx6 zq6).ext hx8 zq6)).lt⟩
     have hx9 : Ext (fun q => col q = 1 ∨ col q = 2) w w8 := (Ext.andThen (Ext.andThen (Ext.andThen (Ext.andThen (Ext.andThen (Ext.andThen (Ext.andThen (Ext.refl (fun q => col q = 1 ∨ col q = 2) _) hk1 zq14) hk2 zq14) hk3 zq14) hk4 zq14) hk5 zq14) hx6 zq14) hx8 zq14)
     have hx9s := hx9.size
     obtain ⟨cl9, hcl9⟩ : ∃ cl9 : Nat → Nat, cl9 = fun q => if q < w.heap.size then col q else if q = w3.heap.size then 4 + 3 * t.fs.length else if q < w8.heap.size then 2 else 0 := ⟨_, rfl⟩
     have ho9 : ∀ q, q < w.heap.size → cl9 q = col q := fun q hq => by rw [hcl9]; exact if_pos hq
     have hb9 : cl9 w3.heap.size = 4 + 3 * t.fs.length := by rw [hcl9]; exact (if_neg Zz).trans (if_pos rfl)
     have hn9 : ∀ q, w.heap.size ≤ q → q ≠ w3.heap.size → q < w8.heap.size → cl9 q = 2 := fun q h1 h2 h3 => by rw [hcl9]; exact (if_neg Zz).trans ((if_neg h2).trans (if_pos h3))
     have hl9 : ∀ q, cl9 q ≠ 0 → q < w8.heap.size := fun q hq => by
       rw [hcl9] at hq; simp only at hq
       split at hq
       ·omega
       ·split at hq
        ·omega
        ·split at hq
         ·assumption
         ·exact absurd rfl hq
     have P9 := h.part (col' := cl9) (fun v => v = 1 ∨ v = 2) hx9 ho9 (fun q _ ht => ht)
     have h9 : RkB cl9 w8 x (.slice A7 (pt ++ [w3.heap.size]).length c7) (.slice AD t.dir.length cD) vX (.slice AC t.chs.length cC) (pt ++ [w3.heap.size]) { t with fs := t.fs ++ [([], [], [])] } := by
       refine ⟨hB8, ((hMf.ext hx8 (by intros; omega) zq20)).mono (fun q hq hS => ?_), P9.D Zz, P9.X Zz, P9.C Zz, P9.cx, hl9, by simp [h.pl], fun k p f a1 a2 => ?_⟩
       ·show cl9 q = 2
        rcases hS with hS | hS
        ·rw [ho9 q (by have := hlt q Zz; omega)]; exact hS
        ·exact hn9 q Zz Zz hq
       ·have hpl := h.pl
        by_cases hk : k < t.fs.length
        ·rw [List.getElem?_append_left Zz] at a1
         have a2' : (t.fs ++ [([], [], [])])[k]? = some f := a2
         rw [List.getElem?_append_left hk] at a2'
         exact P9.fl k p f a1 a2' Zz (fun j _ _ => by omega)
        ·have a2' : (t.fs ++ [([], [], [])])[k]? = some f := a2
         have hk2 : k < (t.fs ++ [([], [], [])]).length := (List.getElem?_eq_some_iff.1 a2').1
         rw [List.length_append, List.length_singleton] at hk2
         have hk3 : k = t.fs.length := by omega
         subst hk3
         rw [List.getElem?_append_right Zz, hpl, Nat.sub_self] at a1
         rw [List.getElem?_append_right (Nat.le_refl _), Nat.sub_self] at a2'
         cases a1; cases a2'
         exact ⟨_, _, _, (((hB4.keep hk5).ext hx6 zq6).ext hx8 zq6), hb9, Mine.nil _ _ _ _ _ _, Mine.nil _ _ _ _ _ _, Mine.nil _ _ _ _ _ _⟩
     refine Zc (X.callE (change_c (⟨#[]⟩, nm, (t.fs.length : Int)) _ h9 ⟨by (try dsimp only); omega, by (try dsimp only); omega⟩) Tryz.call76 rfl rfl) rfl ?_
     rintro _ w9 ⟨rfl, vD', vC', col1, hold1, hnew1, hR1, hx9⟩
     have hx9' := hx9.size
     refine Ze<|Zs<|Zr<|Zom rfl rfl<|Zc (X.callE (Rdid_c _ hR1 (by (try simp only [RS.note]); omega)) Zc77 rfl rfl) rfl ?_
     rintro _ w10 ⟨rfl, hR2, hx10⟩
     have hx10' := hx10.size
     refine Zoai rfl rfl<|Ze<|X.ret1 (v := (.int .i64 _)) Zf32 Zr32 rfl ?_
     have hx : Ext (fun q => col q ≠ 0) w w10 := (Ext.andThen (Ext.andThen (Ext.andThen (Ext.andThen (Ext.andThen (Ext.andThen (Ext.andThen (Ext.andThen (Ext.andThen (Ext.refl (fun q => col q ≠ 0) _) hk1 zq16) hk2 zq16) hk3 zq16) hk4 zq16) hk5 zq16) hx6 zq16) hx8 zq16) hx9 zq16) hx10 zq16)
     have e : t.create nm = (0, (({ t with fs := t.fs ++ [([], [], [])] } : RS).note (⟨#[]⟩, nm, (t.fs.length : Int))).did) := by simp only [RS.create, if_neg (show ¬ t.down = true by rw [hd]; decide), if_neg (show ¬ isNm nm = false by simpa using hn), if_neg (show ¬ 0 ≤ rfind nm t.dir by omega), if_neg (show ¬ 256 ≤ t.dir.length by omega)]
     rw [e]
     exact ⟨rfl, col1, hR2.r, ⟨fun q hq => (hold1 q Zz).trans (ho9 q hq), hx⟩⟩
theorem ERb : ElemInfo Tryz.prog 5 1 1 := ElemInfo.of (z := .int .u8 0) Zl rfl rfl rfl
theorem ERbi : ByteInfo Tryz.prog 5 := ByteInfo.of Zl
def rsec (n : Nat) : Nat := (n + 63) / 64
def rfat (t : RS) (k : Int) : RF := t.fs.getD k.toNat ([], [], [])
theorem rfind_at {nm : ByteArray} {l : DIR} (h : 0 ≤ rfind nm l) : (nm, rfind nm l) ∈ l := by
  rw [rfind] at h ⊢
  cases ha : asc nm l with
  | none => rw [ha] at h; simp at h
  | some k => exact asc_some ha
theorem rfat_at {t : RS} {k : Int} {f : RF} (h : t.fs[k.toNat]? = some f) : rfat t k = f := by rw [rfat, List.getD_eq_getElem?_getD, h]; rfl
theorem RkB.at_ {col : Nat → Nat} {x : Nat} {vF vD vX vC : Value} {pt : List Nat} {t : RS} {w : World} (h : RkB col w x vF vD vX vC pt t) (hok : t.Ok) {k : Int} (hk : 0 ≤ k ∧ k < t.fs.length) : ∃ p f v1 v2 v3, pt[k.toNat]? = some p ∧ t.fs[k.toNat]? = some f ∧ FlK col w k.toNat p v1 v2 v3 f := by
  have hpl := h.pl
  obtain ⟨p, hp⟩ : ∃ p, pt[k.toNat]? = some p := ⟨pt[k.toNat]'Zz, List.getElem?_eq_getElem _⟩
  obtain ⟨f, hf⟩ : ∃ f, t.fs[k.toNat]? = some f := ⟨t.fs[k.toNat]'Zz, List.getElem?_eq_getElem _⟩
  obtain ⟨v1, v2, v3, hfl⟩ := h.fl _ p f hp hf
  exact ⟨p, f, v1, v2, v3, hp, hf, hfl⟩
def RS.sizeOf (nm : ByteArray) (t : RS) : Int × Int := if rfind nm t.dir < 0 then (0, 52) else (((rfat t (rfind nm t.dir)).1.length : Int), 0)
def RS.read (nm : ByteArray) (a n : Int) (t : RS) : List UInt8 × Int := if rfind nm t.dir < 0 then ([], 52) else if a < 0 ∨ n < 0 ∨ ((rfat t (rfind nm t.dir)).1.length : Int) < a ∨ ((rfat t (rfind nm t.dir)).1.length : Int) - a < n then ([], 5) else (((rfat t (rfind nm t.dir)).1.drop a.toNat).take n.toNat, 0)
def rcost (t : RS) (l : DIR) : Nat := (l.map fun e => rsec (rfat t e.2).1.length).sum
def RS.used (t : RS) : Nat := rcost t t.dir
theorem rfat_len {t : RS} (hok : t.Ok) (k : Int) : (rfat t k).1.length ≤ 1048576 ∧ (rfat t k).2.1.length ≤ 1048576 := by
  rw [rfat, List.getD_eq_getElem?_getD]
  cases h : t.fs[k.toNat]? with
  | none => exact ⟨Nat.zero_le _, Nat.zero_le _⟩
  | some f => have := hok.fs f (List.mem_of_getElem? h); exact ⟨this.1, this.2.1⟩
theorem rcost_le {t : RS} (hok : t.Ok) (l : DIR) : rcost t l ≤ l.length * 16384 := by
  induction l with
  | nil => exact Nat.le_refl _
  | cons e l ih =>
    have h1 := (rfat_len hok e.2).1
    have h2 : rsec (rfat t e.2).1.length ≤ 16384 := by rw [rsec]; omega
    rw [rcost, List.map_cons, List.sum_cons, List.length_cons]
    rw [rcost] at ih
    omega
theorem rcost_snoc (t : RS) (l : DIR) (e : ByteArray × Int) : rcost t (l ++ [e]) = rcost t l + rsec (rfat t e.2).1.length := by
  rw [rcost, List.map_append, List.sum_append]; simp [rcost]
theorem RUsed_c {col : Nat → Nat} {x : Nat} {vF vD vX vC : Value} {pt : List Nat} {t : RS} (w : World) (h : RkB col w x vF vD vX vC pt t) (hok : t.Ok) : Ret Tryz.prog 120 #[ptrV x] w fun r w' => r = .int .i64 (t.used : Int) ∧ Keep w w' := by
 obtain ⟨AD, cD, e, hcD, hsD⟩ := h.D.slF KEn_flat 0 (fun _ _ => Nat.zero_le _)
 subst e
 obtain ⟨AC, cC, e, hcC, hsC⟩ := h.C.slF KCh_flat 0 (fun _ _ => Nat.zero_le _)
 subst e
 obtain ⟨AF, cF, e, hcF, hsF⟩ := h.F.slF KRp_flat 0 (fun _ _ => Nat.zero_le _)
 subst e
 have hB := h.B
 have hxl := h.B.lt
 have hlt := h.lt
 have hcx := h.cx
 have hok1 := hok.few
 have hok2 := hok.many
 have hok3 := hok.left
 have hplx := h.pl
 refine X.enter Tryz.func120 rfl Tryz.ntmps120 rfl<|Zs<|Zr<|Zoa rfl rfl<|Ze<|Zs<|Zr<|Zoa rfl rfl<|Ze<|Zs<|Zs<|Zr<|Zoa rfl rfl<|Ze<|Zb<|X.loopL (σ := Nat) (fun s => [(0, ptrV x), (3, .int .i64 (rcost t (t.dir.take s) : Int)), (4, .int .i64 (s : Int))]) (fun s w' => s ≤ t.dir.length ∧ Keep w w') (fun s => t.dir.length - s) 0 ⟨rfl, rfl, rfl, trivial⟩ ⟨Nat.zero_le _, (Keep.refl _)⟩ ?_
 rintro i b0 wl ⟨hi, hk⟩ hback
 have hk' := hk.size
 have hcl := rcost_le hok (t.dir.take i)
 rw [List.length_take] at hcl
 refine Zs<|Zs<|Zr<|Zomi rfl rfl<|Zom rfl rfl<|Zo (X.nilCk rfl) rfl<|Zo (X.fldB (j := 2) Zu134 rfl rfl Zs131 rfl) rfl<|Zo (X.load1B Zi131 (hB.keep hk) rfl rfl) rfl<|Zo (X.lenSl Zu131 rfl) rfl<|X.opP X.wN rfl rfl (X.lss rfl rfl) (fun h11 => ?_) (fun h11 => ?_)
 ·obtain ⟨en, hen⟩ := rget i (l := t.dir) rfl Zz
  have hed := hok.dir en (List.mem_of_getElem? hen)
  have hdr := rtake hen
  obtain ⟨p, f, v1, v2, v3, hpp, hff, hfl⟩ := h.at_ hok hed
  have hfB := hfl.B
  have hfc := hfl.c
  have hfpl := hfB.lt
  have hfok := hok.fs f (List.mem_of_getElem? hff)
  have hfat := rfat_at hff
  obtain ⟨Af1, cf1, e, hcf1, hf1⟩ := hfl.M1.slF KB_flat 0 (fun _ _ => Nat.zero_le _)
  subst e
  obtain ⟨Af2, cf2, e, hcf2, hf2⟩ := hfl.M2.slF KB_flat 0 (fun _ _ => Nat.zero_le _)
  subst e
  obtain ⟨Af3, cf3, e, hcf3, hf3⟩ := hfl.M3.slF KI_flat 0 (fun _ _ => Nat.zero_le _)
  subst e
  have hstep := rcost_snoc t (t.dir.take i) en
  rw [← hdr, hfat, rsec] at hstep
  refine Ze<|Zt rfl<|Zk<|Zs<|Zb<|X.regionD (fun _ => False) 21 Zl Zl (fun w1 hk1 hz1 => ?_)
  refine ZDc 0 rfl Zl (Zdmi rfl)<|ZDc 1 rfl Zl (X.move rfl)<|ZDc 2 rfl Zl (X.nilCk rfl)<|ZDc 3 rfl Zl (X.fldB (j := 1) Zu134 rfl rfl Zs130 rfl)<|ZD 4 rfl Zl (fun w' hk' => X.load1B Zi130 (hB.keep ((hk.trans hk1).trans hk')) rfl rfl)<|ZDc 5 rfl Zl (X.move rfl)<|ZDc 6 rfl Zl (X.nilCk rfl)<|ZDc 7 rfl Zl (X.fldB (j := 2) Zu134 rfl rfl Zs131 rfl)<|ZD 8 rfl Zl (fun w' hk' => X.load1B Zi131 (hB.keep ((hk.trans hk1).trans hk')) rfl rfl)<|ZDc 9 rfl Zl (Zdmi rfl)<|ZD 10 rfl Zl (fun w' hk' => X.idxS (hsD.keep ((hk.trans hk1).trans hk')) Zu131 Zs192 rfl rfl ⟨by omega, by omega⟩)<|ZDc 11 rfl Zl (X.fldA Zu192 rfl rfl Zs3)<|ZD 12 rfl Zl (fun w' hk' => X.loadSf Zi3 (hsD.keep ((hk.trans hk1).trans hk')) hen rfl (fun _ h => by rw [h.1]; rfl)) ?_
  refine ZD 13 rfl Zl (fun w' hk' => X.idxS (hsF.keep ((hk.trans hk1).trans hk')) Zu130 Zs145 rfl rfl ⟨by omega, by omega⟩)<|ZD 14 rfl Zl (fun w' hk' => X.loadS Zi145 (hsF.keep ((hk.trans hk1).trans hk')) hpp rfl (fun _ h => by rw [h.1]; rfl)) ?_
  refine ZDc 15 rfl Zl (X.nilCk rfl)<|ZDc 16 rfl Zl (X.fldB (j := 0) Zu147 rfl rfl Zs43 rfl)<|ZD 17 rfl Zl (fun w' hk' => X.load1B Zi43 (hfB.keep ((hk.trans hk1).trans hk')) rfl rfl)<|ZDc 18 rfl Zl (X.lenSl Zu43 rfl)<|X.dE (i := 19) Zl rfl (X.dwN rfl) (X.callE (Rsectors_c _ _ Zz) Tryz.call121 rfl rfl) (by rintro _ w2 ⟨rfl, hk2⟩ _; exact hk2.mono (fun _ _ h => h.elim)) ?_
  rintro _ w2 ⟨rfl, hk2⟩
  have hk2' := hk2.size
  refine ZDc 20 rfl Zl (X.add (c := ((rcost t (t.dir.take (i + 1)) : Nat) : Int)) rfl rfl (by rw [hstep, Int.natCast_add]; exact X.w_i64 Zz)) ?_
  refine X.dStep (i := 21) Zl rfl (X.dwN rfl) (X.assign (v := .int .i64 _) rfl) (fun h => absurd h (by decide))<|Zdend Zl<|Zi<|Zr<|Zomi rfl rfl<|Zo (X.add rfl rfl (X.w_i64 Zz)) rfl<|Zoai rfl rfl<|Ze ?_
  refine hback (i + 1) _ _ ⟨rfl, rfl, rfl, trivial⟩ ⟨by omega, ((hk.trans hk1).trans hk2)⟩ Zz
 ·refine Ze<|Zf rfl<|Zx rfl<|Zs<|Zr<|Zomi rfl rfl<|Zoai rfl rfl<|Ze<|X.ret1 (v := (.int .i64 _)) Tryz.func120 Tryz.results120 rfl ?_
  exact ⟨by rw [List.take_of_length_le Zz]; rfl, hk⟩
def RS.sync (nm : ByteArray) (t : RS) : Int × RS := if t.down = true then (54, t) else if rfind nm t.dir < 0 then (52, t) else (0, ({ t with fs := t.fs.set (rfind nm t.dir).toNat ((rfat t (rfind nm t.dir)).1, (rfat t (rfind nm t.dir)).1, []) } : RS).did)
theorem RSync_c {col : Nat → Nat} {x : Nat} {vF vD vX vC : Value} {pt : List Nat} {t : RS} (nm : ByteArray) (w : World) (h : RkB col w x vF vD vX vC pt t) (hok : t.Ok) : Ret Tryz.prog 79 #[ptrV x, .string nm] w fun r w' => r = .int .i64 (t.sync nm).1 ∧ ∃ col', RkR col' w' x (t.sync nm).2 ∧ Stp col w col' w' := by
 obtain ⟨AD, cD, e, hcD, hsD⟩ := h.D.slF KEn_flat 0 (fun _ _ => Nat.zero_le _)
 subst e
 obtain ⟨AC, cC, e, hcC, hsC⟩ := h.C.slF KCh_flat 0 (fun _ _ => Nat.zero_le _)
 subst e
 obtain ⟨AF, cF, e, hcF, hsF⟩ := h.F.slF KRp_flat 0 (fun _ _ => Nat.zero_le _)
 subst e
 have hB := h.B
 have hxl := h.B.lt
 have hlt := h.lt
 have hcx := h.cx
 have hok1 := hok.few
 have hok2 := hok.many
 have hok3 := hok.left
 have hplx := h.pl
 refine X.enter Zf79 rfl Tryz.ntmps79 rfl<|Zs<|Zr<|Zoa rfl rfl<|Ze<|Zs<|Zs<|Zr<|Zom rfl rfl<|Zc (X.callE (RDown_c _ (h.keep (Keep.refl _))) Zc73 rfl rfl) rfl ?_
 rintro _ w1 ⟨rfl, hk1⟩
 have hk1' := hk1.size
 refine Ze<|X.condB rfl (fun hd => ?_) (fun hd => ?_)
 ·refine Zs<|Zr<|Zoa rfl rfl<|Ze<|X.ret1 (v := (.int .i64 _)) Zf79 Zr79 rfl ?_
  have e : t.sync nm = (54, t) := by simp only [RS.sync, if_pos hd]
  rw [e]
  exact ⟨rfl, col, (h.keep hk1).r, Stp.keep hk1⟩
 ·refine Zk<|Zs<|Zr<|Zom rfl rfl<|Zo (X.nilCk rfl) rfl<|Zo (X.fldB (j := 2) Zu134 rfl rfl Zs131 rfl) rfl<|Zo (X.load1B Zi131 (hB.keep hk1) rfl rfl) rfl<|Zomg rfl rfl<|Zc (X.callE (Find_c nm _ (hsD.keep hk1) Zz) Zc75 rfl rfl) rfl ?_
  rintro _ w2 ⟨rfl, hk2⟩
  have hk2' := hk2.size
  refine Zoai rfl rfl<|Ze<|Zs<|Zs<|Zr<|Zomi rfl rfl<|X.opP X.wN rfl rfl (X.lss rfl rfl) (fun h16 => ?_) (fun h16 => ?_)
  ·refine Ze<|Zt rfl<|Zs<|Zr<|Zoa rfl rfl<|Ze<|X.ret1 (v := (.int .i64 _)) Zf79 Zr79 rfl ?_
   have e : t.sync nm = (52, t) := by simp only [RS.sync, if_neg (show ¬ t.down = true by rw [hd]; decide), if_pos h16]
   rw [e]
   exact ⟨rfl, col, (h.keep (hk1.trans hk2)).r, Stp.keep (hk1.trans hk2)⟩
  ·have hk0 : 0 ≤ rfind nm t.dir := by omega
   have hk1' := hok.dir _ (rfind_at hk0)
   obtain ⟨p, f, v1, v2, v3, hpp, hff, hfl⟩ := h.at_ hok ⟨hk0, hk1'.2⟩
   have hfB := hfl.B
   have hfc := hfl.c
   have hfpl := hfB.lt
   have hfok := hok.fs f (List.mem_of_getElem? hff)
   have hfat := rfat_at hff
   obtain ⟨Af1, cf1, e, hcf1, hf1⟩ := hfl.M1.slF KB_flat 0 (fun _ _ => Nat.zero_le _)
   subst e
   obtain ⟨Af2, cf2, e, hcf2, hf2⟩ := hfl.M2.slF KB_flat 0 (fun _ _ => Nat.zero_le _)
   subst e
   obtain ⟨Af3, cf3, e, hcf3, hf3⟩ := hfl.M3.slF KI_flat 0 (fun _ _ => Nat.zero_le _)
   subst e
   refine Ze<|Zf rfl<|Zk<|Zs<|Zr<|Zom rfl rfl<|Zo (X.nilCk rfl) rfl<|Zo (X.fldB (j := 1) Zu134 rfl rfl Zs130 rfl) rfl<|Zo (X.load1B Zi130 (hB.keep (hk1.trans hk2)) rfl rfl) rfl<|Zomi rfl rfl<|Zo (X.idxS (hsF.keep (hk1.trans hk2)) Zu130 Zs145 rfl rfl ⟨by omega, by omega⟩) rfl<|Zo (X.loadS Zi145 (hsF.keep (hk1.trans hk2)) hpp rfl (fun _ h => by rw [h.1]; rfl)) rfl ?_
   refine Zoa rfl rfl<|Ze<|Zs<|Zr<|Zom rfl rfl<|Zom rfl rfl<|Zc (X.lit0E (K := KB) (S := fun k => w.heap.size ≤ k) Zu43 Zs5 zq34) rfl ?_
   rintro v3 w3 ⟨hM3, hk3, hz3⟩
   refine Zom rfl rfl<|Zo (X.nilCk rfl) rfl<|Zo (X.fldB (j := 0) Zu147 rfl rfl Zs43 rfl) rfl<|Zo (X.load1B Zi43 (hfB.keep ((hk1.trans hk2).trans hk3)) rfl rfl) rfl<|Zc (X.appE (K := KB) (S := fun k => w.heap.size ≤ k) KB_flat Zu43 ERb rfl rfl hM3 (m0 KB_flat (((hfl.M1.keep hk1).keep hk2).keep hk3)) zq15 zq34) rfl ?_
   rintro v4 w4 ⟨hM4, hx4⟩
   have hx4' := hx4.size
   refine Zo (X.nilCk rfl) rfl<|Zo (X.fldB (j := 1) Zu147 rfl rfl Zs43 rfl) rfl ?_
   have q5 := hM4.slF KB_flat 0 (fun _ _ => Nat.zero_le _)
   obtain ⟨A5, c5, rfl, hc5, hs5⟩ := q5
   refine Zc (X.storeE Zs43 ((hfB.keep ((hk1.trans hk2).trans hk3)).ext hx4 zq6) rfl rfl rfl (by obtain ⟨A', c', e, _⟩ := (hM4).slice; rw [e]; rfl)) rfl ?_
   rintro _ w6 ⟨hB6, hx6, hz6⟩
   refine Zo (X.nilCk rfl) rfl<|Zo (X.fldB (j := 2) Zu147 rfl rfl Zs74 rfl) rfl<|Zc (X.storeE Zs74 hB6 rfl rfl rfl rfl) rfl ?_
   rintro _ w7 ⟨hB7, hx7, hz7⟩
   refine Ze<|Zs<|Zr<|Zom rfl rfl ?_
   have hx : Ext (fun q => col q = 4 + 3 * (rfind nm t.dir).toNat) w w7 := (Ext.andThen (Ext.andThen (Ext.andThen (Ext.andThen (Ext.andThen (Ext.andThen (Ext.refl (fun q => col q = 4 + 3 * (rfind nm t.dir).toNat) _) hk1 zq8) hk2 zq8) hk3 zq8) hx4 zq8) hx6 zq8) hx7 zq8)
   have hxs := hx.size
   obtain ⟨col', hcol⟩ : ∃ col', col' = rec' col w.heap.size w7.heap.size (6 + 3 * (rfind nm t.dir).toNat) := ⟨_, rfl⟩
   have hold : ∀ q, q < w.heap.size → col' q = col q := fun q hq => by rw [hcol]; exact rec_old hq
   have hnew : ∀ q, w.heap.size ≤ q → q < w7.heap.size → col' q = 6 + 3 * (rfind nm t.dir).toNat := fun q h1 h2 => by rw [hcol]; exact rec_new h1 h2
   have hltc : ∀ q, col' q ≠ 0 → q < w7.heap.size := fun q hq => by rw [hcol] at hq; exact rec_lt hlt hxs hq
   have P := h.part (col' := col') (fun v => v = 4 + 3 * (rfind nm t.dir).toNat) hx hold (fun q hq ht => ht)
   have hst : Stp col w col' w7 := ⟨hold, hx.mono (fun q _ t => by (try simp only [] at t); omega)⟩
   have hR1 : RkB col' w7 x (.slice AF pt.length cF) (.slice AD t.dir.length cD) vX (.slice AC t.chs.length cC) pt { t with fs := t.fs.set (rfind nm t.dir).toNat (f.1, f.1, []) } := ⟨P.B Zz, P.F Zz, P.D Zz, P.X Zz, P.C Zz, P.cx, hltc, by rw [List.length_set]; exact h.pl, fun j q g h1 h2 => by
     by_cases hj : j = (rfind nm t.dir).toNat
     ·subst hj
      rw [hpp] at h1
      have h2' : (t.fs.set (rfind nm t.dir).toNat (f.1, f.1, []))[(rfind nm t.dir).toNat]? = some g := h2
      rw [List.getElem?_set_self (List.getElem?_eq_some_iff.1 hff).1] at h2'
      cases h1; cases h2'
      exact ⟨_, _, _, hB7, (hold _ hfpl).trans hfc, colr hfl.M1 hx hold (fun q _ ht => by (try dsimp only at ht); omega), (((hM4.ext hx6 zq6 zq6).ext hx7 zq6 zq6)).mono (fun q hq hS => hnew q hS hq), Mine.nil _ _ _ _ _ _⟩
     ·have h2' : (t.fs.set (rfind nm t.dir).toNat (f.1, f.1, []))[j]? = some g := h2
      rw [List.getElem?_set_ne (fun e => hj e.symm)] at h2'
      exact P.fl j q g h1 h2' Zz (fun v a1 a2 => by omega)⟩
   refine Zc (X.callE (Rdid_c _ hR1 (by (try simp only [RS.note]); omega)) Zc77 rfl rfl) rfl ?_
   rintro _ w8 ⟨rfl, hR2, hx8⟩
   have hx8' := hx8.size
   refine Zoai rfl rfl<|Ze<|X.ret1 (v := (.int .i64 _)) Zf79 Zr79 rfl ?_
   have hx : Ext (fun q => col q ≠ 0) w w8 := (Ext.andThen (Ext.andThen (Ext.andThen (Ext.andThen (Ext.andThen (Ext.andThen (Ext.andThen (Ext.refl (fun q => col q ≠ 0) _) hk1 zq11) hk2 zq11) hk3 zq11) hx4 zq11) hx6 zq11) hx7 zq11) hx8 zq11)
   have e : t.sync nm = (0, ({ t with fs := t.fs.set (rfind nm t.dir).toNat (f.1, f.1, []) } : RS).did) := by simp only [RS.sync, if_neg (show ¬ t.down = true by rw [hd]; decide), if_neg h16, hfat]
   rw [e]
   exact ⟨rfl, col', hR2.r, ⟨fun q hq => hold q hq, hx⟩⟩
def rpad (b : List UInt8) (a n : Nat) : List UInt8 := b ++ List.replicate (max b.length (a + n) - b.length) 0
def rput (b : List UInt8) (a : Nat) (y : List UInt8) : List UInt8 := b.take a ++ y ++ b.drop (a + y.length)
def rwrt (b : List UInt8) (a : Nat) (y : List UInt8) : List UInt8 := rput (rpad b a y.length) a y
def rmark : Nat → Nat → List Int → List Int
  | _, 0, l => l
  | s, n + 1, l => rmark (s + 1) n (lput (s : Int) l)
def rtouch (a n : Nat) : Nat := if n = 0 then 0 else rsec (a + n) - a / 64
def RS.write (nm : ByteArray) (a : Int) (y : List UInt8) (t : RS) : Int × RS := if t.down = true then (54, t) else if rfind nm t.dir < 0 then (52, t)
  else if a < 0 ∨ ((rfat t (rfind nm t.dir)).1.length : Int) < a then (5, t) else if 1048576 - a < (y.length : Int) then (2, t)
  else if t.rm < (t.used : Int) - (rsec (rfat t (rfind nm t.dir)).1.length : Int) + (rsec (max (rfat t (rfind nm t.dir)).1.length (a.toNat + y.length)) : Int) then (53, t)
  else (0, ({ t with fs := t.fs.set (rfind nm t.dir).toNat (rwrt (rfat t (rfind nm t.dir)).1 a.toNat y, (rfat t (rfind nm t.dir)).2.1, rmark (a.toNat / 64) (rtouch a.toNat y.length) (rfat t (rfind nm t.dir)).2.2) } : RS).did)
theorem lput_len (k : Int) (l : List Int) : (lput k l).length ≤ l.length + 1 := by
  rw [lput]
  split
  · omega
  · have := congrArg List.length (List.takeWhile_append_dropWhile (p := fun x : Int => decide (x < k)) (l := l))
    rw [List.length_append] at this
    simp only [List.length_append, List.length_singleton]; omega
theorem rmark_len : ∀ (n s : Nat) (l : List Int), (rmark s n l).length ≤ l.length + n
  | 0, _, _ => Nat.le_refl _
  | n + 1, s, l => by rw [rmark]; have := rmark_len n (s + 1) (lput (s : Int) l); have := lput_len (s : Int) l; omega
theorem rmark_snoc : ∀ (n s : Nat) (l : List Int), rmark s (n + 1) l = lput ((s + n : Nat) : Int) (rmark s n l)
  | 0, _, _ => rfl
  | n + 1, s, l => by rw [rmark, rmark_snoc n (s + 1), rmark, show s + 1 + n = s + (n + 1) by omega]
theorem rput_len {b : List UInt8} {a : Nat} {y : List UInt8} (h : a + y.length ≤ b.length) : (rput b a y).length = b.length := by
  simp only [rput, List.length_append, List.length_take, List.length_drop]; omega
theorem rput_step {b : List UInt8} {a i : Nat} {y : List UInt8} {z : UInt8} (hz : y[i]? = some z) (h : a + y.length ≤ b.length) : (rput b a (y.take i)).set (a + i) z = rput b a (y.take (i + 1)) := by
  have hi := (List.getElem?_eq_some_iff.1 hz).1
  have h1 : (y.take i).length = i := by rw [List.length_take]; omega
  have h2 : (b.take a).length = a := by rw [List.length_take]; omega
  rw [rput, rput, rtake hz, List.length_append, h1, List.length_singleton, List.append_assoc, List.append_assoc, List.set_append_right _ _ Zz, h2, List.set_append_right _ _ Zz, h1, show a + i - a - i = 0 by omega]
  obtain ⟨u, hu⟩ : ∃ u, b[a + i]? = some u := ⟨b[a + i]'Zz, List.getElem?_eq_getElem _⟩
  rw [rdrop hu, List.set_cons_zero]; simp [Nat.add_assoc]
theorem putM {e : TypeId} {S T : Nat → Prop} {g : Nat} {w' : World} {A : Option Addr} {n c : Nat} {l : List Int} {k : Int} {vP : Value} (hP : vP = .slice A n c ∧ lput k l = l ∨ Mine KI e (fun q => g ≤ q) 0 0 w' vP (lput k l)) (hM : Mine KI e S 0 0 w' (.slice A n c) l) (hS : ∀ q, S q → T q) (hT : ∀ q, g ≤ q → q < w'.heap.size → T q) : Mine KI e T 0 0 w' vP (lput k l) := by
  rcases hP with ⟨e1, e2⟩ | hP
  · rw [e1, e2]; exact hM.mono fun q _ h => hS q h
  · exact hP.mono fun q hq h => hT q h hq
theorem RWrite_c {col : Nat → Nat} {x : Nat} {vF vD vX vC : Value} {pt : List Nat} {t : RS} {lo hi m cy : Nat} {Ay : Option Addr} {y : List UInt8} (nm : ByteArray) (a : Int) (w : World) (h : RkB col w x vF vD vX vC pt t) (hok : t.Ok) (ha : -9223372036854775808 ≤ a ∧ a ≤ 9223372036854775807) (hy : Sl KB lo hi w Ay m y) (hy0 : ∀ q, lo ≤ q → q < hi → col q = 0 ∧ q < w.heap.size) (hym : m ≤ 1000000000) : Ret Tryz.prog 78 #[ptrV x, .string nm, .int .i64 a, .slice Ay m cy] w fun r w' => r = .int .i64 (t.write nm a y).1 ∧ ∃ col', RkR col' w' x (t.write nm a y).2 ∧ Stp col w col' w' := by
 obtain ⟨AD, cD, e, hcD, hsD⟩ := h.D.slF KEn_flat 0 (fun _ _ => Nat.zero_le _)
 subst e
 obtain ⟨AC, cC, e, hcC, hsC⟩ := h.C.slF KCh_flat 0 (fun _ _ => Nat.zero_le _)
 subst e
 obtain ⟨AF, cF, e, hcF, hsF⟩ := h.F.slF KRp_flat 0 (fun _ _ => Nat.zero_le _)
 subst e
 have hB := h.B
 have hxl := h.B.lt
 have hlt := h.lt
 have hcx := h.cx
 have hok1 := hok.few
 have hok2 := hok.many
 have hok3 := hok.left
 have hplx := h.pl
 have hyl := hy.len
 have hus : t.used ≤ 4194304 := by have := rcost_le hok t.dir; rw [RS.used]; omega
 refine X.enter Zf78 rfl Tryz.ntmps78 rfl<|Zs<|Zr<|Zoa rfl rfl<|Ze<|Zs<|Zs<|Zr<|Zom rfl rfl<|Zc (X.callE (RDown_c _ (h.keep (Keep.refl _))) Zc73 rfl rfl) rfl ?_
 rintro _ w1 ⟨rfl, hk1⟩
 have hk1' := hk1.size
 refine Ze<|X.condB rfl (fun hd => ?_) (fun hd => ?_)
 ·refine Zs<|Zr<|Zoa rfl rfl<|Ze<|X.ret1 (v := (.int .i64 _)) Zf78 Zr78 rfl ?_
  have e : t.write nm a y = (54, t) := by simp only [RS.write, if_pos hd]
  rw [e]
  exact ⟨rfl, col, (h.keep hk1).r, Stp.keep hk1⟩
 ·refine Zk<|Zs<|Zr<|Zom rfl rfl<|Zo (X.nilCk rfl) rfl<|Zo (X.fldB (j := 2) Zu134 rfl rfl Zs131 rfl) rfl<|Zo (X.load1B Zi131 (hB.keep hk1) rfl rfl) rfl<|Zomg rfl rfl<|Zc (X.callE (Find_c nm _ (hsD.keep hk1) Zz) Zc75 rfl rfl) rfl ?_
  rintro _ w2 ⟨rfl, hk2⟩
  have hk2' := hk2.size
  refine Zoai rfl rfl<|Ze<|Zs<|Zs<|Zr<|Zomi rfl rfl<|X.opP X.wN rfl rfl (X.lss rfl rfl) (fun h24 => ?_) (fun h24 => ?_)
  ·refine Ze<|Zt rfl<|Zs<|Zr<|Zoa rfl rfl<|Ze<|X.ret1 (v := (.int .i64 _)) Zf78 Zr78 rfl ?_
   have e : t.write nm a y = (52, t) := by simp only [RS.write, if_neg (show ¬ t.down = true by rw [hd]; decide), if_pos h24]
   rw [e]
   exact ⟨rfl, col, (h.keep (hk1.trans hk2)).r, Stp.keep (hk1.trans hk2)⟩
  ·have hk0 : 0 ≤ rfind nm t.dir := by omega
   have hk1' := hok.dir _ (rfind_at hk0)
   obtain ⟨p, f, v1, v2, v3, hpp, hff, hfl⟩ := h.at_ hok ⟨hk0, hk1'.2⟩
   have hfB := hfl.B
   have hfc := hfl.c
   have hfpl := hfB.lt
   have hfok := hok.fs f (List.mem_of_getElem? hff)
   have hfat := rfat_at hff
   obtain ⟨Af1, cf1, e, hcf1, hf1⟩ := hfl.M1.slF KB_flat 0 (fun _ _ => Nat.zero_le _)
   subst e
   obtain ⟨Af2, cf2, e, hcf2, hf2⟩ := hfl.M2.slF KB_flat 0 (fun _ _ => Nat.zero_le _)
   subst e
   obtain ⟨Af3, cf3, e, hcf3, hf3⟩ := hfl.M3.slF KI_flat 0 (fun _ _ => Nat.zero_le _)
   subst e
   refine Ze<|Zf rfl<|Zk<|Zs<|Zr<|Zom rfl rfl<|Zo (X.nilCk rfl) rfl<|Zo (X.fldB (j := 1) Zu134 rfl rfl Zs130 rfl) rfl<|Zo (X.load1B Zi130 (hB.keep (hk1.trans hk2)) rfl rfl) rfl<|Zomi rfl rfl<|Zo (X.idxS (hsF.keep (hk1.trans hk2)) Zu130 Zs145 rfl rfl ⟨by omega, by omega⟩) rfl<|Zo (X.loadS Zi145 (hsF.keep (hk1.trans hk2)) hpp rfl (fun _ h => by rw [h.1]; rfl)) rfl ?_
   refine Zoa rfl rfl<|Ze<|Zs<|Zs<|Zr<|Zomi rfl rfl<|X.opP X.wN rfl rfl (X.lss rfl rfl) (fun h33 => ?_) (fun h33 => ?_)
   ·refine Zomt rfl rfl<|Zp rfl rfl rfl<|Zp rfl rfl rfl<|Zp rfl rfl rfl<|Zp rfl rfl rfl<|Zp rfl rfl rfl<|Zp rfl rfl rfl<|Zp rfl rfl rfl<|Zo (ZdTt rfl rfl) rfl<|Ze<|Zt rfl<|Zs<|Zr<|Zoa rfl rfl<|Ze<|X.ret1 (v := (.int .i64 _)) Zf78 Zr78 rfl ?_
    have e : t.write nm a y = (5, t) := by simp only [RS.write, if_neg (show ¬ t.down = true by rw [hd]; decide), if_neg h24, hfat, if_pos (show a < 0 ∨ (f.1.length : Int) < a by omega)]
    rw [e]
    exact ⟨rfl, col, (h.keep (hk1.trans hk2)).r, Stp.keep (hk1.trans hk2)⟩
   ·refine Zomf rfl rfl<|Zg (Zdmi rfl) rfl rfl rfl rfl<|Zg (X.move rfl) rfl rfl rfl rfl<|Zg (X.nilCk rfl) rfl rfl rfl rfl<|Zg (X.fldB (j := 0) Zu147 rfl rfl Zs43 rfl) rfl rfl rfl rfl<|Zg (X.load1B Zi43 (hfB.keep (hk1.trans hk2)) rfl rfl) rfl rfl rfl rfl<|Zg (X.lenSl Zu43 rfl) rfl rfl rfl rfl<|X.opP (X.wG rfl rfl rfl) rfl rfl (X.gtr rfl rfl) (fun h41 => ?_) (fun h41 => ?_)
    ·refine Zo (ZdFt rfl rfl) rfl<|Ze<|Zt rfl<|Zs<|Zr<|Zoa rfl rfl<|Ze<|X.ret1 (v := (.int .i64 _)) Zf78 Zr78 rfl ?_
     have e : t.write nm a y = (5, t) := by simp only [RS.write, if_neg (show ¬ t.down = true by rw [hd]; decide), if_neg h24, hfat, if_pos (show a < 0 ∨ (f.1.length : Int) < a by omega)]
     rw [e]
     exact ⟨rfl, col, (h.keep (hk1.trans hk2)).r, Stp.keep (hk1.trans hk2)⟩
    ·obtain ⟨a', rfl⟩ : ∃ a' : Nat, a = (a' : Int) := ⟨a.toNat, by omega⟩
     refine Zo (ZdFf rfl rfl) rfl<|Ze<|Zf rfl<|Zk<|Zs<|Zs<|Zr<|Zoms rfl rfl<|Zo (X.lenSl Zu43 rfl) rfl<|Zomi rfl rfl<|Zo (X.sub rfl rfl (X.w_i64 Zz)) rfl<|X.opP X.wN rfl rfl (X.gtr rfl rfl) (fun h47 => ?_) (fun h47 => ?_)
     ·refine Ze<|Zt rfl<|Zs<|Zr<|Zoa rfl rfl<|Ze<|X.ret1 (v := (.int .i64 _)) Zf78 Zr78 rfl ?_
      have e : t.write nm (a' : Int) y = (2, t) := by simp only [RS.write, Int.toNat_natCast, if_neg (show ¬ t.down = true by rw [hd]; decide), if_neg h24, hfat, if_neg (show ¬ ((a' : Int) < 0 ∨ (f.1.length : Int) < (a' : Int)) by omega), if_pos (show 1048576 - (a' : Int) < (y.length : Int) by omega)]
      rw [e]
      exact ⟨rfl, col, (h.keep (hk1.trans hk2)).r, Stp.keep (hk1.trans hk2)⟩
     ·refine Ze<|Zf rfl<|Zk<|Zs<|Zr<|Zom rfl rfl<|Zo (X.nilCk rfl) rfl<|Zo (X.fldB (j := 0) Zu147 rfl rfl Zs43 rfl) rfl<|Zo (X.load1B Zi43 (hfB.keep (hk1.trans hk2)) rfl rfl) rfl<|Zo (X.lenSl Zu43 rfl) rfl<|Zomi rfl rfl<|Zoms rfl rfl<|Zo (X.lenSl Zu43 rfl) rfl<|Zo (X.add rfl rfl (X.w_i64 Zz)) rfl<|Zo (X.maxII (c := ((max f.1.length (a' + m) : Nat) : Int)) rfl rfl (by split <;> omega)) rfl ?_
      refine Zoai rfl rfl<|Ze<|Zs<|Zs<|X.regionD (fun _ => False) 17 Zl Zl (fun w3 hk3 hz3 => ?_)
      refine ZDc 0 rfl Zl (X.move rfl)<|ZDc 2 rfl Zl (X.move rfl)<|ZDc 3 rfl Zl (X.nilCk rfl)<|ZDc 4 rfl Zl (X.fldB (j := 0) Zu147 rfl rfl Zs43 rfl)<|ZD 5 rfl Zl (fun w' hk' => X.load1B Zi43 (hfB.keep (((hk1.trans hk2).trans hk3).trans hk')) rfl rfl)<|ZDc 6 rfl Zl (X.lenSl Zu43 rfl)<|ZDc 9 rfl Zl (Zdmi rfl)<|ZDc 12 rfl Zl (X.move rfl)<|ZDc 13 rfl Zl (X.nilCk rfl)<|ZDc 14 rfl Zl (X.fldB (j := 0) Zu134 rfl rfl Zs3 rfl)<|ZD 15 rfl Zl (fun w' hk' => X.load1B Zi3 (hB.keep (((hk1.trans hk2).trans hk3).trans hk')) rfl rfl)<|X.dE (i := 1) Zl rfl (X.dwN rfl) (X.callE (RUsed_c _ (((h.keep hk1).keep hk2).keep hk3) hok) Tryz.call120 rfl rfl) (by rintro _ w4 ⟨rfl, hk4⟩ _; exact hk4.mono (fun _ _ h => h.elim)) ?_
      rintro _ w4 ⟨rfl, hk4⟩
      have hk4' := hk4.size
      refine X.dE (i := 7) Zl rfl (X.dwN rfl) (X.callE (Rsectors_c _ _ Zz) Tryz.call121 rfl rfl) (by rintro _ w5 ⟨rfl, hk5⟩ _; exact hk5.mono (fun _ _ h => h.elim)) ?_
      rintro _ w5 ⟨rfl, hk5⟩
      have hk5' := hk5.size
      refine ZDc 8 rfl Zl (X.sub rfl rfl (X.w_i64 Zz))<|X.dE (i := 10) Zl rfl (X.dwN rfl) (X.callE (Rsectors_c _ _ Zz) Tryz.call121 rfl rfl) (by rintro _ w6 ⟨rfl, hk6⟩ _; exact hk6.mono (fun _ _ h => h.elim)) ?_
      rintro _ w6 ⟨rfl, hk6⟩
      have hk6' := hk6.size
      refine ZDc 11 rfl Zl (X.add rfl rfl (X.w_i64 Zz))<|ZDc 16 rfl Zl (X.gtr rfl rfl)<|Zdend Zl<|X.condB rfl (fun hf => ?_) (fun hf => ?_)
      ·refine Zs<|Zr<|Zoa rfl rfl<|Ze<|X.ret1 (v := (.int .i64 _)) Zf78 Zr78 rfl ?_
       have hfu : t.rm < (t.used : Int) - (rsec f.1.length : Int) + (rsec (max f.1.length (a' + y.length)) : Int) := by have := of_decide_eq_true hf; simp only [rsec]; rw [hyl]; exact this
       have e : t.write nm (a' : Int) y = (53, t) := by simp only [RS.write, Int.toNat_natCast, if_neg (show ¬ t.down = true by rw [hd]; decide), if_neg h24, hfat, if_neg (show ¬ ((a' : Int) < 0 ∨ (f.1.length : Int) < (a' : Int)) by omega), if_neg (show ¬ 1048576 - (a' : Int) < (y.length : Int) by omega), if_pos hfu]
       rw [e]
       exact ⟨rfl, col, (h.keep (((((hk1.trans hk2).trans hk3).trans hk4).trans hk5).trans hk6)).r, Stp.keep (((((hk1.trans hk2).trans hk3).trans hk4).trans hk5).trans hk6)⟩
      ·refine Zk<|Zs<|X.regionD (fun k => w6.heap.size ≤ k) 14 Zl Zl (fun w7 hk7 hz7 => ?_)
       refine ZDc 1 rfl Zl (X.move rfl)<|ZDc 2 rfl Zl (X.nilCk rfl)<|ZDc 3 rfl Zl (X.fldB (j := 0) Zu147 rfl rfl Zs43 rfl)<|ZD 4 rfl Zl (fun w' hk' => X.load1B Zi43 ((hfB.keep ((((((hk1.trans hk2).trans hk3).trans hk4).trans hk5).trans hk6).trans hk7)).ext hk' zq4) rfl rfl) ?_
       refine ZDc 6 rfl Zl (Zdmi rfl)<|ZDc 7 rfl Zl (X.move rfl)<|ZDc 8 rfl Zl (X.nilCk rfl)<|ZDc 9 rfl Zl (X.fldB (j := 0) Zu147 rfl rfl Zs43 rfl)<|ZD 10 rfl Zl (fun w' hk' => X.load1B Zi43 ((hfB.keep ((((((hk1.trans hk2).trans hk3).trans hk4).trans hk5).trans hk6).trans hk7)).ext hk' zq4) rfl rfl) ?_
       refine ZDc 11 rfl Zl (X.lenSl Zu43 rfl)<|ZDc 12 rfl Zl (X.sub rfl rfl (X.w_i64 Zz))<|X.dE (i := 0) Zl rfl (X.dwN rfl) (X.lit0E (K := KB) (S := fun k => w7.heap.size ≤ k) Zu43 Zs5 zq34) (by rintro v8 w8 ⟨hM8, hk8, hz8⟩ _; exact hk8.mono (fun _ _ h => h.elim)) ?_
       rintro v8 w8 ⟨hM8, hk8, hz8⟩
       refine X.dE (i := 5) Zl rfl (X.dwN rfl) (X.appE (K := KB) (S := fun k => w7.heap.size ≤ k) KB_flat Zu43 ERb rfl rfl hM8 ((m0 KB_flat (((((((hfl.M1.keep hk1).keep hk2).keep hk3).keep hk4).keep hk5).keep hk6).keep hk7)).keep hk8) zq15 zq34) (by rintro v9 w9 ⟨hM9, hx9⟩ _; exact hx9.mono (fun k _ h => by (try simp only [] at *); omega)) ?_
       rintro v9 w9 ⟨hM9, hx9⟩
       have hx9' := hx9.size
       refine X.dE (i := 13) Zl rfl (X.dwN rfl) (X.appMkB (S := fun k => w7.heap.size ≤ k) Zu43 Zu3 ERbi rfl rfl Zz (Mine.mono (T := fun k => w7.heap.size ≤ k) hM9 (fun k h1 h2 => by (try simp only [] at *); omega)) zq15 zq34) (by rintro v10 w10 ⟨hM10, hx10⟩ _; exact hx10.mono (fun k _ h => by (try simp only [] at *); omega)) ?_
       rintro v10 w10 ⟨hM10, hx10⟩
       have hx10' := hx10.size
       refine X.dStep (i := 14) Zl rfl (X.dwN rfl) (X.assign rfl) (fun h => absurd h (by decide))<|Zdend Zl<|Zs<|Zs<|Zr<|Zoa rfl rfl<|Ze<|Zb ?_
       have hM12 := hM10
       have hpd : [] ++ f.1 ++ List.replicate (((max f.1.length (a' + m) : Nat) : Int) - (f.1.length : Int)).toNat 0 = rpad f.1 a' y.length := by rw [List.nil_append, rpad, hyl]; congr 2; omega
       rw [hpd] at hM12
       obtain ⟨Ax, cx9, e9, hcx9, _⟩ := hM12.slice
       subst e9
       have hM12 := hM12.mono (T := fun q => w.heap.size ≤ q) (fun q _ h => by (try dsimp only at h); omega)
       have hLp : (rpad f.1 a' y.length).length = max f.1.length (a' + m) := by rw [rpad, List.length_append, List.length_replicate, hyl]; omega
       have hyL := ((hy.keep ((((((((hk1.trans hk2).trans hk3).trans hk4).trans hk5).trans hk6).trans hk7).trans hk8).step hx9 zq34)).ext hx10 zq4)
       have hfBL := ((hfB.keep ((((((((hk1.trans hk2).trans hk3).trans hk4).trans hk5).trans hk6).trans hk7).trans hk8).step hx9 zq34)).ext hx10 zq4)
       have hBL := ((hB.keep ((((((((hk1.trans hk2).trans hk3).trans hk4).trans hk5).trans hk6).trans hk7).trans hk8).step hx9 zq34)).ext hx10 zq4)
       have hkA : Keep w w10 := (((((((((hk1.trans hk2).trans hk3).trans hk4).trans hk5).trans hk6).trans hk7).trans hk8).step hx9 zq34).step hx10 zq34)
       refine X.loopL (σ := Nat) (fun s => [(0, ptrV x), (2, .int .i64 (a' : Int)), (3, .slice Ay m cy), (10, ptrV p), (12, .slice Ax (rpad f.1 a' y.length).length cx9), (13, .int .i64 (s : Int))]) (fun s w' => s ≤ m ∧ Mine KB 5 (fun q => w.heap.size ≤ q) 0 0 w' (.slice Ax (rpad f.1 a' y.length).length cx9) (rput (rpad f.1 a' y.length) a' (y.take s)) ∧ Ext (fun q => w.heap.size ≤ q) w10 w') (fun s => m - s) 0 ⟨rfl, rfl, rfl, rfl, rfl, rfl, trivial⟩ ⟨Nat.zero_le _, by rw [show rput (rpad f.1 a' y.length) a' (y.take 0) = rpad f.1 a' y.length by simp [rput]]; exact hM12, Ext.refl _ _⟩ ?_
       rintro i b0 wi ⟨hi, gMi, hxi⟩ hback
       have hxi' := hxi.size
       have hrl : (rput (rpad f.1 a' y.length) a' (y.take i)).length = (rpad f.1 a' y.length).length := rput_len (by rw [List.length_take]; omega)
       refine Zs<|Zs<|Zr<|Zomi rfl rfl<|Zoms rfl rfl<|Zo (X.lenSl Zu43 rfl) rfl<|X.opP X.wN rfl rfl (X.lss rfl rfl) (fun h92 => ?_) (fun h92 => ?_)
       ·obtain ⟨z, hz⟩ := rget i hyl Zz
        refine Ze<|Zt rfl<|Zk<|Zs<|Zb<|Zr<|Zom rfl rfl<|Zomi rfl rfl<|Zomi rfl rfl<|Zo (X.add rfl rfl (X.w_i64 Zz)) rfl<|Zoms rfl rfl<|Zomi rfl rfl<|Zo (X.idxS (hyL.ext hxi zq4) Zu43 Zs5 rfl rfl ⟨by omega, by omega⟩) rfl ?_
        refine Zo (X.loadS Tryz.isAgg5 (hyL.ext hxi zq4) hz rfl (fun _ h => by rw [h.1]; rfl)) rfl ?_
        refine Zo (X.idxS (gMi.rd KB_flat).2 Zu43 Zs5 rfl rfl ⟨by omega, by omega⟩) rfl<|Zc (X.storeM (y := z) (j := a' + i) Zs5 gMi Zz rfl rfl) rfl ?_
        rintro _ w11 ⟨gMs, hxs, hzs⟩
        refine Ze<|Zi<|Zr<|Zomi rfl rfl<|Zo (X.add rfl rfl (X.w_i64 Zz)) rfl<|Zoai rfl rfl<|Ze ?_
        refine hback (i + 1) _ _ ⟨rfl, rfl, rfl, rfl, rfl, rfl, trivial⟩ ⟨by omega, by rw [← rput_step hz Zz]; exact gMs, (Ext.andThen (Ext.andThen (Ext.refl (fun q => w.heap.size ≤ q) _) hxi zq33) hxs zq33)⟩ Zz
       ·refine Ze<|Zf rfl<|Zx rfl<|Zs<|Zr<|Zom rfl rfl<|Zom rfl rfl<|Zo (X.nilCk rfl) rfl<|Zo (X.fldB (j := 0) Zu147 rfl rfl Zs43 rfl) rfl<|Zc (X.storeE Zs43 (hfBL.ext hxi zq4) rfl rfl rfl rfl) rfl ?_
        rintro _ w12 ⟨hB12, hx12, hz12⟩
        refine Ze<|Zs<|Zs<|Zr<|Zoms rfl rfl ?_
        have hmi : i = m := by omega
        rw [hmi, List.take_of_length_le Zz] at gMi
        have hx : Ext (fun q => col q = 4 + 3 * (rfind nm t.dir).toNat) w w12 := (Ext.andThen (Ext.andThen (hkA.mono (fun _ _ h => h.elim)) hxi zq8) hx12 zq8)
        have hxs := hx.size
        obtain ⟨col', hcol⟩ : ∃ col', col' = rec' col w.heap.size w12.heap.size (5 + 3 * (rfind nm t.dir).toNat) := ⟨_, rfl⟩
        have hold : ∀ q, q < w.heap.size → col' q = col q := fun q hq => by rw [hcol]; exact rec_old hq
        have hnew : ∀ q, w.heap.size ≤ q → q < w12.heap.size → col' q = 5 + 3 * (rfind nm t.dir).toNat := fun q h1 h2 => by rw [hcol]; exact rec_new h1 h2
        have hltc : ∀ q, col' q ≠ 0 → q < w12.heap.size := fun q hq => by rw [hcol] at hq; exact rec_lt hlt hxs hq
        have P := h.part (col' := col') (fun v => v = 4 + 3 * (rfind nm t.dir).toNat) hx hold (fun q hq ht => ht)
        have hst : Stp col w col' w12 := ⟨hold, hx.mono (fun q _ t => by (try simp only [] at t); omega)⟩
        have hRA : RkB col' w12 x (.slice AF pt.length cF) (.slice AD t.dir.length cD) vX (.slice AC t.chs.length cC) pt { t with fs := t.fs.set (rfind nm t.dir).toNat (rwrt f.1 a' y, f.2.1, f.2.2) } := ⟨P.B Zz, P.F Zz, P.D Zz, P.X Zz, P.C Zz, P.cx, hltc, by rw [List.length_set]; exact h.pl, fun j q g h1 h2 => by
          by_cases hj : j = (rfind nm t.dir).toNat
          ·subst hj
           rw [hpp] at h1
           have h2' : (t.fs.set (rfind nm t.dir).toNat (rwrt f.1 a' y, f.2.1, f.2.2))[(rfind nm t.dir).toNat]? = some g := h2
           rw [List.getElem?_set_self (List.getElem?_eq_some_iff.1 hff).1] at h2'
           cases h1; cases h2'
           exact ⟨_, _, _, hB12, (hold _ hfpl).trans hfc, ((gMi.ext hx12 (by intros; omega) zq20)).mono (fun q hq hS => hnew q hS hq), colr hfl.M2 hx hold (fun q _ ht => by (try dsimp only at ht); omega), colr hfl.M3 hx hold (fun q _ ht => by (try dsimp only at ht); omega)⟩
          ·have h2' : (t.fs.set (rfind nm t.dir).toNat (rwrt f.1 a' y, f.2.1, f.2.2))[j]? = some g := h2
           rw [List.getElem?_set_ne (fun e => hj e.symm)] at h2'
           exact P.fl j q g h1 h2' Zz (fun v a1 a2 => by omega)⟩
        have hxW : Ext (fun q => col q ≠ 0) w w12 := hst.2
        refine Zo (X.lenSl Zu43 rfl) rfl<|X.opP X.wN rfl rfl (X.gtr rfl rfl) (fun h110 => ?_) (fun h110 => ?_)
        ·refine Ze<|Zt rfl<|Zs<|Zr<|Zomi rfl rfl<|Zo (X.quo (c := ((a' / 64 + 0 : Nat) : Int)) rfl rfl (by decide) (by rw [show (a' : Int).tdiv 64 = ((a' / 64 + 0 : Nat) : Int) from rfl]; exact X.w_i64 Zz)) rfl ?_
         refine Zoai rfl rfl<|Ze<|Zb ?_
         have hcn : rtouch a' y.length = (a' + m - 1) / 64 + 1 - a' / 64 := by rw [rtouch, if_neg Zz, rsec, hyl]; omega
         refine X.loopL (σ := Nat) (fun s => [(0, ptrV x), (2, .int .i64 (a' : Int)), (3, .slice Ay m cy), (10, ptrV p), (14, .int .i64 ((a' / 64 + s : Nat) : Int))]) (fun s w' => s ≤ rtouch a' y.length ∧ ∃ cj, RkB cj w' x (.slice AF pt.length cF) (.slice AD t.dir.length cD) vX (.slice AC t.chs.length cC) pt { t with fs := t.fs.set (rfind nm t.dir).toNat (rwrt f.1 a' y, f.2.1, rmark (a' / 64) (s) f.2.2) } ∧ (∀ q, q < w.heap.size → cj q = col q) ∧ Ext (fun q => col q ≠ 0) w w') (fun s => rtouch a' y.length - s) 0 ⟨rfl, rfl, rfl, rfl, rfl, trivial⟩ ⟨Nat.zero_le _, col', hRA, hold, hxW⟩ ?_
         rintro j bj wj ⟨hj, cj, hRj, hcj, hxj⟩ hback
         have hxj' := hxj.size
         have hBj := hRj.B
         refine Zs<|Zs<|Zr<|Zomi rfl rfl<|Zomi rfl rfl<|Zoms rfl rfl<|Zo (X.lenSl Zu43 rfl) rfl<|Zo (X.add rfl rfl (X.w_i64 Zz)) rfl<|Zo (X.sub rfl rfl (X.w_i64 Zz)) rfl<|Zo (X.quo (c := (((a' + m - 1) / 64 : Nat) : Int)) rfl rfl (by decide) (by rw [show ((a' : Int) + (m : Int) - 1).tdiv 64 = (((a' + m - 1) / 64 : Nat) : Int) by rw [show (a' : Int) + (m : Int) - 1 = ((a' + m - 1 : Nat) : Int) by omega]; rfl]; exact X.w_i64 Zz)) rfl ?_
         refine X.opP X.wN rfl rfl (X.leq rfl rfl) (fun h120 => ?_) (fun h120 => ?_)
         ·obtain ⟨u1, u2, u3, hfj⟩ := hRj.fl (rfind nm t.dir).toNat p _ hpp (List.getElem?_set_self (List.getElem?_eq_some_iff.1 hff).1)
          have hfjB := hfj.B
          obtain ⟨Au3, cu3, e, hcu3, hu3⟩ := hfj.M3.slF KI_flat 0 (fun _ _ => Nat.zero_le _)
          subst e
          have hrml := rmark_len j (a' / 64) f.2.2
          refine Ze<|Zt rfl<|Zk<|Zs<|Zb<|Zr<|Zom rfl rfl<|Zom rfl rfl<|Zo (X.nilCk rfl) rfl<|Zo (X.fldB (j := 2) Zu147 rfl rfl Zs74 rfl) rfl<|Zo (X.load1B Zi74 hfjB rfl rfl) rfl<|Zomi rfl rfl<|Zc (X.callE (put_c _ _ hu3 hcu3 Zz (by have h9 : (rmark (a' / 64) j f.2.2).length ≤ 100000 := Zz; exact h9)) Tryz.call122 rfl rfl) rfl ?_
          rintro vP w13 ⟨hP, hk13⟩
          have hk13' := hk13.size
          refine Zo (X.nilCk rfl) rfl<|Zo (X.fldB (j := 2) Zu147 rfl rfl Zs74 rfl) rfl<|Zc (X.storeE Zs74 (hfjB.keep hk13) rfl rfl rfl (hP.elim (fun h => by rw [h.1]; rfl) (fun h => by obtain ⟨A', c', e, _⟩ := h.slice; rw [e]; rfl))) rfl ?_
          rintro _ w14 ⟨hB14, hx14, hz14⟩
          refine Ze<|Zi<|Zr<|Zomi rfl rfl<|Zo (X.add rfl rfl (X.w_i64 Zz)) rfl<|Zoai rfl rfl<|Ze ?_
          have hLj : rmark (a' / 64) (j + 1) f.2.2 = lput ((a' / 64 + j : Nat) : Int) (rmark (a' / 64) j f.2.2) := rmark_snoc _ _ _
          have hjx : Ext (fun q => cj q = 4 + 3 * (rfind nm t.dir).toNat) wj w14 := (Ext.andThen (Ext.andThen (Ext.refl (fun q => cj q = 4 + 3 * (rfind nm t.dir).toNat) _) hk13 (by intro q h1 h2; first | exact (h2 : False).elim | (have h2 : q = _ := h2; subst h2; exact hfj.c))) hx14 (by intro q h1 h2; first | exact (h2 : False).elim | (have h2 : q = _ := h2; subst h2; exact hfj.c)))
          have hjs := hjx.size
          have hjl := hRj.lt
          obtain ⟨cn, hcn2⟩ : ∃ cn, cn = rec' cj wj.heap.size w14.heap.size 3 := ⟨_, rfl⟩
          have hold2 : ∀ q, q < wj.heap.size → cn q = cj q := fun q hq => by rw [hcn2]; exact rec_old hq
          have hnew2 : ∀ q, wj.heap.size ≤ q → q < w14.heap.size → cn q = 3 := fun q h1 h2 => by rw [hcn2]; exact rec_new h1 h2
          have hlt2 : ∀ q, cn q ≠ 0 → q < w14.heap.size := fun q hq => by rw [hcn2] at hq; exact rec_lt hjl hjs hq
          have P2 := hRj.part (col' := cn) (fun v => v = 4 + 3 * (rfind nm t.dir).toNat) hjx hold2 (fun q hq ht => ht)
          have hMP := putM (S := fun q => cn q = 3) (T := fun q => cn q = 3) (hP.imp id (fun hm => (hm.ext hx14 (by intros; omega) (by intro q g1 g2; have g2 : q = _ := g2; have g1 : _ ≤ q := g1; have := hfj.B.lt; omega)))) (colr hfj.M3 hjx hold2 (fun q _ ht => by (try dsimp only at ht); omega)) (fun q h => h) (fun q h1 h2 => hnew2 q h1 h2)
          have hRn : RkB cn w14 x (.slice AF pt.length cF) (.slice AD t.dir.length cD) vX (.slice AC t.chs.length cC) pt { t with fs := t.fs.set (rfind nm t.dir).toNat (rwrt f.1 a' y, f.2.1, rmark (a' / 64) (j + 1) f.2.2) } := by
            rw [hLj]
            refine ⟨P2.B Zz, P2.F Zz, P2.D Zz, P2.X Zz, P2.C Zz, P2.cx, hlt2, by rw [List.length_set]; exact h.pl, fun k q g h1 h2 => ?_⟩
            by_cases hkk : k = (rfind nm t.dir).toNat
            ·subst hkk
             rw [hpp] at h1
             have h2' : (t.fs.set (rfind nm t.dir).toNat _)[(rfind nm t.dir).toNat]? = some g := h2
             rw [List.getElem?_set_self (List.getElem?_eq_some_iff.1 hff).1] at h2'
             cases h1; cases h2'
             exact ⟨_, _, _, hB14, (hold2 _ hfj.B.lt).trans hfj.c, colr hfj.M1 hjx hold2 (fun q _ ht => by (try dsimp only at ht); omega), colr hfj.M2 hjx hold2 (fun q _ ht => by (try dsimp only at ht); omega), hMP⟩
            ·have h2' : (t.fs.set (rfind nm t.dir).toNat _)[k]? = some g := h2
             rw [List.getElem?_set_ne (fun e => hkk e.symm)] at h2'
             exact P2.fl k q g h1 (by show (t.fs.set (rfind nm t.dir).toNat _)[k]? = some g; rw [List.getElem?_set_ne (fun e => hkk e.symm)]; exact h2') Zz (fun v a1 a2 => by omega)
          have hxn : Ext (fun q => col q ≠ 0) w w14 := Ext.trans hxj hjx (fun _ _ h => h) (fun q hq h => by have h : cj q = _ := h; have := hcj q hq; omega)
          refine hback (j + 1) _ _ ⟨rfl, rfl, rfl, rfl, rfl, trivial⟩ ⟨by omega, cn, hRn, fun q hq => (hold2 q Zz).trans (hcj q hq), hxn⟩ Zz
         ·refine Ze<|Zf rfl<|Zx rfl<|Zs<|Zr<|Zom rfl rfl ?_
          have hje : j = rtouch a' y.length := by omega
          rw [hje] at hRj
          refine Zc (X.callE (Rdid_c _ hRj (by (try dsimp only); omega)) Zc77 rfl rfl) rfl ?_
          rintro _ w15 ⟨rfl, hR2, hx15⟩
          have hx15' := hx15.size
          refine Zoai rfl rfl<|Ze<|X.ret1 (v := (.int .i64 _)) Zf78 Zr78 rfl ?_
          have hfu : ¬ t.rm < (t.used : Int) - (rsec f.1.length : Int) + (rsec (max f.1.length (a' + y.length)) : Int) := by have := of_decide_eq_false hf; simp only [rsec]; rw [hyl]; exact this
          have hxz : Ext (fun q => col q ≠ 0) w w15 := (Ext.andThen hxj hx15 (by intro q h1 h2; have h2 : q = x := h2; subst h2; omega))
          have e : t.write nm (a' : Int) y = (0, ({ t with fs := t.fs.set (rfind nm t.dir).toNat (rwrt f.1 a' y, f.2.1, rmark (a' / 64) (rtouch a' y.length) f.2.2) } : RS).did) := by simp only [RS.write, Int.toNat_natCast, if_neg (show ¬ t.down = true by rw [hd]; decide), if_neg h24, hfat, if_neg (show ¬ ((a' : Int) < 0 ∨ (f.1.length : Int) < (a' : Int)) by omega), if_neg (show ¬ 1048576 - (a' : Int) < (y.length : Int) by omega), if_neg hfu]
          rw [e]
          exact ⟨rfl, _, hR2.r, ⟨fun q hq => hcj q hq, hxz⟩⟩
        ·refine Ze<|Zf rfl<|Zk<|Zs<|Zr<|Zom rfl rfl ?_
         have hm0 : rtouch a' y.length = 0 := by rw [rtouch, if_pos Zz]
         have hRz : RkB col' w12 x (.slice AF pt.length cF) (.slice AD t.dir.length cD) vX (.slice AC t.chs.length cC) pt { t with fs := t.fs.set (rfind nm t.dir).toNat (rwrt f.1 a' y, f.2.1, rmark (a' / 64) (rtouch a' y.length) f.2.2) } := by rw [hm0]; exact hRA
         refine Zc (X.callE (Rdid_c _ hRz (by (try dsimp only); omega)) Zc77 rfl rfl) rfl ?_
         rintro _ w16 ⟨rfl, hR2, hx16⟩
         have hx16' := hx16.size
         refine Zoai rfl rfl<|Ze<|X.ret1 (v := (.int .i64 _)) Zf78 Zr78 rfl ?_
         have hfu : ¬ t.rm < (t.used : Int) - (rsec f.1.length : Int) + (rsec (max f.1.length (a' + y.length)) : Int) := by have := of_decide_eq_false hf; simp only [rsec]; rw [hyl]; exact this
         have hxz : Ext (fun q => col q ≠ 0) w w16 := (Ext.andThen hxW hx16 (by intro q h1 h2; have h2 : q = x := h2; subst h2; omega))
         have e : t.write nm (a' : Int) y = (0, ({ t with fs := t.fs.set (rfind nm t.dir).toNat (rwrt f.1 a' y, f.2.1, rmark (a' / 64) (rtouch a' y.length) f.2.2) } : RS).did) := by simp only [RS.write, Int.toNat_natCast, if_neg (show ¬ t.down = true by rw [hd]; decide), if_neg h24, hfat, if_neg (show ¬ ((a' : Int) < 0 ∨ (f.1.length : Int) < (a' : Int)) by omega), if_neg (show ¬ 1048576 - (a' : Int) < (y.length : Int) by omega), if_neg hfu]
         rw [e]
         exact ⟨rfl, _, hR2.r, ⟨fun q hq => hold q hq, hxz⟩⟩
def nfold (l : List Int) (vs : List Int) : List Int := vs.foldl (fun l v => lput v l) l
def rnew (l : List CHG) : List Int := (l.filter fun c => decide (c.1 = ⟨#[]⟩)).map fun c => c.2.2
def RS.near (t : RS) : List Int := nfold (nfold [] (t.fx.map (·.2))) (rnew t.chs)
def rls (t : RS) (l : List Int) : Nat := (l.map fun k => (rfat t k).2.2.length).sum
def rcn (t : RS) (l : List Int) : Nat := (l.map fun k => if (rfat t k).1.length ≠ (rfat t k).2.1.length then 1 else 0).sum
def RS.loose (t : RS) : Nat × Nat × Nat := (t.chs.length, rls t t.near, rcn t t.near)
theorem lput_mem {k x : Int} {l : List Int} (h : x ∈ lput k l) : x = k ∨ x ∈ l := by
  rw [lput] at h
  split at h
  · exact .inr h
  · rcases List.mem_append.1 h with h | h
    · rcases List.mem_append.1 h with h | h
      · exact .inr ((List.takeWhile_sublist _).subset h)
      · exact .inl (List.mem_singleton.1 h)
    · exact .inr ((List.dropWhile_sublist _).subset h)
theorem nfold_mem {x : Int} : ∀ {vs l : List Int}, x ∈ nfold l vs → x ∈ l ∨ x ∈ vs
  | [], _, h => .inl h
  | v :: vs, l, h => by
    rcases nfold_mem (vs := vs) (l := lput v l) h with h | h
    · rcases lput_mem h with h | h
      · exact .inr (by rw [h]; exact List.mem_cons_self)
      · exact .inl h
    · exact .inr (List.mem_cons_of_mem _ h)
theorem rnear_ok {t : RS} (hok : t.Ok) {k : Int} (h : k ∈ t.near) : 0 ≤ k ∧ k < t.fs.length := by
  rcases nfold_mem h with h | h
  · rcases nfold_mem h with h | h
    · cases h
    · obtain ⟨p, hp, rfl⟩ := List.mem_map.1 h
      exact hok.fx p hp
  · obtain ⟨c, hc, rfl⟩ := List.mem_map.1 h
    obtain ⟨h1, h2⟩ := List.mem_filter.1 hc
    exact hok.chs c h1 (by simpa using h2)
theorem rbl_eq : ∀ (x y : List UInt8), Op.bytesLess x y = decide (x < y)
  | [], [] => by simp [Op.bytesLess]
  | _ :: _, [] => by simp [Op.bytesLess]
  | [], _ :: _ => by simp [Op.bytesLess]
  | a :: x, b :: y => by
    have h : (a :: x < b :: y) ↔ (a < b ∨ a = b ∧ x < y) := List.cons_lt_cons_iff
    rw [Op.bytesLess, rbl_eq x y, show decide (a :: x < b :: y) = decide (a < b ∨ a = b ∧ x < y) from decide_eq_decide.2 h, Bool.decide_or, Bool.decide_and]; rfl
theorem sless_lt (a b : ByteArray) : sless a b = decide (a.data.toList < b.data.toList) := rbl_eq _ _
theorem sl_irr (a : ByteArray) : sless a a = false := by rw [sless_lt]; exact decide_eq_false (List.lt_irrefl _)
theorem sl_trans {a b c : ByteArray} (h1 : sless a b = true) (h2 : sless b c = true) : sless a c = true := by
  rw [sless_lt] at *
  exact decide_eq_true (List.lt_trans (of_decide_eq_true h1) (of_decide_eq_true h2))
theorem sl_tri {a b : ByteArray} (h1 : sless a b = false) (h2 : a ≠ b) : sless b a = true := by
  rw [sless_lt] at *
  have h3 : ¬ a.data.toList < b.data.toList := of_decide_eq_false h1
  refine decide_eq_true ?_
  rcases Classical.em (b.data.toList < a.data.toList) with h | h
  · exact h
  · exfalso
    have e : a.data.toList = b.data.toList := List.le_antisymm (List.not_lt.1 h) (List.not_lt.1 h3)
    apply h2
    cases a with | mk a => cases b with | mk b => exact congrArg _ (Array.toList_inj.1 e)
def Srtd (l : DIR) : Prop := l.Pairwise fun p q => sless p.1 q.1 = true
theorem Srtd.nd {l : DIR} (h : Srtd l) : (l.map (·.1)).Nodup := by
  rw [List.Nodup, List.pairwise_map]
  exact h.imp fun {p q} hpq e => by rw [e, sl_irr] at hpq; exact absurd hpq (by decide)
theorem Srtd.rwo {l : DIR} (h : Srtd l) (nm : ByteArray) : Srtd (rwo nm l) := h.sublist List.filter_sublist
theorem asc_rwo (nm x : ByteArray) : ∀ l : DIR, asc x (rwo nm l) = if x = nm then none else asc x l
  | [] => by simp [rwo, asc]
  | (a, u) :: l => by
    have ih := asc_rwo nm x l
    by_cases ha : a = nm
    · rw [rwo, List.filter_cons_of_neg (by simpa using ha), ← rwo, ih, asc]
      by_cases hx : x = nm
      · rw [if_pos hx, if_pos hx]
      · rw [if_neg hx, if_neg hx, if_neg (by rw [ha]; exact hx)]
    · rw [rwo, List.filter_cons_of_pos (by simpa using ha), ← rwo, asc, ih, asc]
      by_cases hx : x = nm
      · rw [if_pos hx, if_pos hx, if_neg (by rw [hx]; exact fun e => ha e.symm)]
      · rw [if_neg hx, if_neg hx]
theorem asc_ins (e : ByteArray × Int) (x : ByteArray) : ∀ l : DIR, e.1 ∉ l.map (·.1) → asc x (rins e l) = if x = e.1 then some e.2 else asc x l
  | [], _ => by simp [rins, asc]
  | (a, u) :: l, h => by
    have ha : e.1 ≠ a := fun q => h (by rw [q]; exact List.mem_cons_self)
    have ih := asc_ins e x l (fun q => h (List.mem_cons_of_mem _ q))
    by_cases hs : sless a e.1 = true
    · have e1 : rins e ((a, u) :: l) = (a, u) :: rins e l := by simp [rins, hs]
      rw [e1, asc, ih, asc]
      by_cases hx : x = e.1
      · rw [if_pos hx, if_pos hx, if_neg (by rw [hx]; exact ha)]
      · rw [if_neg hx, if_neg hx]
    · have e1 : rins e ((a, u) :: l) = e :: (a, u) :: l := by simp [rins, hs]
      rw [e1]; rfl
theorem Srtd.ins {e : ByteArray × Int} : ∀ {l : DIR}, Srtd l → e.1 ∉ l.map (·.1) → Srtd (rins e l)
  | [], _, _ => by simp [rins, Srtd]
  | (a, u) :: l, h, hn => by
    have ha : a ≠ e.1 := fun q => hn (by rw [← q]; exact List.mem_cons_self)
    obtain ⟨h1, h2⟩ := List.pairwise_cons.1 h
    by_cases hs : sless a e.1 = true
    · have e1 : rins e ((a, u) :: l) = (a, u) :: rins e l := by simp [rins, hs]
      rw [e1]
      refine List.pairwise_cons.2 ⟨fun q hq => ?_, Srtd.ins h2 (fun q => hn (List.mem_cons_of_mem _ q))⟩
      have hq' : q = e ∨ q ∈ l := by
        rcases List.mem_append.1 hq with hq | hq
        · rcases List.mem_append.1 hq with hq | hq
          · exact .inr ((List.takeWhile_sublist _).subset hq)
          · exact .inl (List.mem_singleton.1 hq)
        · exact .inr ((List.dropWhile_sublist _).subset hq)
      rcases hq' with rfl | hq'
      · exact hs
      · exact h1 q hq'
    · have e1 : rins e ((a, u) :: l) = e :: (a, u) :: l := by simp [rins, hs]
      rw [e1]
      have hea : sless e.1 a = true := sl_tri (by simpa using hs) ha
      refine List.pairwise_cons.2 ⟨fun q hq => ?_, h⟩
      rcases List.mem_cons.1 hq with rfl | hq
      · exact hea
      · exact sl_trans hea (h1 q hq)
theorem rwo_out (nm : ByteArray) (l : DIR) : nm ∉ (rwo nm l).map (·.1) := fun h => by
  obtain ⟨p, hp, e⟩ := List.mem_map.1 h
  have := (List.mem_filter.1 hp).2
  simp at this
  exact this e
def DirT (d e : DIR) : Prop := (∀ x, asc x e = asc x d) ∧ Srtd e
theorem DirT.nil : DirT [] [] := ⟨fun _ => rfl, List.Pairwise.nil⟩
theorem DirT.del {d e : DIR} (h : DirT d e) (hd : (d.map (·.1)).Nodup) (nm : ByteArray) : DirT (del nm d) (rwo nm e) := ⟨fun x => by rw [asc_rwo, asc_del hd, h.1], h.2.rwo nm⟩
theorem DirT.put {d e : DIR} (h : DirT d e) (nm : ByteArray) (k : Int) : DirT (put nm k d) (rwith (nm, k) e) :=
  ⟨fun x => by rw [rwith, asc_ins _ _ _ (rwo_out nm e), asc_rwo, asc_put, h.1]; by_cases hx : x = nm <;> simp [hx], (h.2.rwo nm).ins (rwo_out nm e)⟩
theorem DirT.trn {d e : DIR} (h : DirT d e) (hd : (d.map (·.1)).Nodup) (c : CHG) : DirT (trn c d) (rapply c e) := by
  have h1 : DirT (if c.1 = ⟨#[]⟩ then d else X.del c.1 d) (if c.1 = ⟨#[]⟩ then e else Go.Proofs.YtbljooblpfdbiaaGreatDoor.rwo c.1 e) := by
    split
    · exact h
    · exact h.del hd c.1
  rw [trn_eq, rapply]
  simp only
  split
  · exact h1
  · exact h1.put _ _
abbrev Inc (l : List Int) : Prop := l.Pairwise (· < ·)
theorem inc_ext : ∀ {a b : List Int}, Inc a → Inc b → (∀ x, x ∈ a ↔ x ∈ b) → a = b
  | [], [], _, _, _ => rfl
  | [], y :: b, _, _, h => by have := (h y).2 List.mem_cons_self; cases this
  | x :: a, [], _, _, h => by have := (h x).1 List.mem_cons_self; cases this
  | x :: a, y :: b, ha, hb, h => by
    obtain ⟨a1, a2⟩ := List.pairwise_cons.1 ha
    obtain ⟨b1, b2⟩ := List.pairwise_cons.1 hb
    have hxy : x = y := by
      rcases List.mem_cons.1 ((h x).1 List.mem_cons_self) with e | e
      · exact e
      · rcases List.mem_cons.1 ((h y).2 List.mem_cons_self) with e' | e'
        · exact e'.symm
        · have := b1 x e; have := a1 y e'; omega
    subst hxy
    congr 1
    refine inc_ext a2 b2 fun z => ⟨fun hz => ?_, fun hz => ?_⟩
    · have := a1 z hz
      rcases List.mem_cons.1 ((h z).1 (List.mem_cons_of_mem _ hz)) with e | e
      · omega
      · exact e
    · have := b1 z hz
      rcases List.mem_cons.1 ((h z).2 (List.mem_cons_of_mem _ hz)) with e | e
      · omega
      · exact e
theorem lput_has (k : Int) : ∀ l : List Int, k ∈ lput k l := fun l => by
  rw [lput]
  split
  · rename_i h
    exact (List.dropWhile_sublist _).subset (List.mem_of_mem_head? h)
  · exact List.mem_append_left _ (List.mem_append_right _ List.mem_cons_self)
theorem lput_old {k x : Int} {l : List Int} (h : x ∈ l) : x ∈ lput k l := by
  rw [lput]
  split
  · exact h
  · rw [← List.takeWhile_append_dropWhile (p := fun x : Int => decide (x < k)) (l := l)] at h
    rcases List.mem_append.1 h with h | h
    · exact List.mem_append_left _ (List.mem_append_left _ h)
    · exact List.mem_append_right _ h
theorem lput_iff {k x : Int} {l : List Int} : x ∈ lput k l ↔ x = k ∨ x ∈ l := ⟨lput_mem, fun h => h.elim (fun e => by rw [e]; exact lput_has k l) lput_old⟩
theorem lput_cons_lt {k a : Int} {l : List Int} (h : a < k) : lput k (a :: l) = a :: lput k l := by
  rw [lput, lput]
  have h1 : (a :: l).dropWhile (fun x => decide (x < k)) = l.dropWhile (fun x => decide (x < k)) := by simp [h]
  have h2 : (a :: l).takeWhile (fun x => decide (x < k)) = a :: l.takeWhile (fun x => decide (x < k)) := by simp [h]
  rw [h1, h2]
  split <;> simp
theorem lput_inc {k : Int} : ∀ {l : List Int}, Inc l → Inc (lput k l)
  | [], _ => by simp [lput, Inc]
  | a :: l, h => by
    obtain ⟨h1, h2⟩ := List.pairwise_cons.1 h
    by_cases ha : a < k
    · rw [lput_cons_lt ha]
      refine List.pairwise_cons.2 ⟨fun x hx => ?_, lput_inc h2⟩
      rcases lput_mem hx with e | e
      · rw [e]; exact ha
      · exact h1 x e
    · rw [lput]
      have e1 : (a :: l).dropWhile (fun x => decide (x < k)) = a :: l := by simp [ha]
      have e2 : (a :: l).takeWhile (fun x => decide (x < k)) = [] := by simp [ha]
      rw [e1, e2]
      split
      · exact h
      · rename_i hh
        have hak : a ≠ k := fun e => hh (by rw [e]; rfl)
        refine List.pairwise_cons.2 ⟨fun x hx => ?_, h⟩
        rcases List.mem_cons.1 hx with e | e
        · omega
        · have := h1 x e; omega
theorem nfold_inc : ∀ {vs l : List Int}, Inc l → Inc (nfold l vs)
  | [], _, h => h
  | v :: vs, l, h => nfold_inc (vs := vs) (lput_inc h)
theorem nfold_iff {x : Int} : ∀ {vs l : List Int}, x ∈ nfold l vs ↔ x ∈ l ∨ x ∈ vs
  | [], l => by simp [nfold]
  | v :: vs, l => by
    have ih := nfold_iff (x := x) (vs := vs) (l := lput v l)
    rw [show nfold l (v :: vs) = nfold (lput v l) vs from rfl, ih, lput_iff, List.mem_cons]
    constructor
    · rintro ((h | h) | h)
      · exact .inr (.inl h)
      · exact .inl h
      · exact .inr (.inr h)
    · rintro (h | h | h)
      · exact .inl (.inr h)
      · exact .inl (.inl h)
      · exact .inr h
theorem same_vals {d e : DIR} (h : DirT d e) (hd : (d.map (·.1)).Nodup) (k : Int) : k ∈ e.map (·.2) ↔ k ∈ d.map (·.2) := by
  constructor
  · intro hk
    obtain ⟨p, hp, rfl⟩ := List.mem_map.1 hk
    have := asc_mem h.2.nd (x := p.1) (u := p.2) hp
    rw [h.1] at this
    exact List.mem_map.2 ⟨_, asc_some this, rfl⟩
  · intro hk
    obtain ⟨p, hp, rfl⟩ := List.mem_map.1 hk
    have := asc_mem hd (x := p.1) (u := p.2) hp
    rw [← h.1] at this
    exact List.mem_map.2 ⟨_, asc_some this, rfl⟩
theorem near_tie {s : DS} {t : RS} (hf : DirT s.fx t.fx) (hn : (s.fx.map (·.1)).Nodup) (hc : t.chs = s.chs) : t.near = s.near := by
  refine inc_ext (nfold_inc (nfold_inc List.Pairwise.nil)) (nrs_inc _) fun x => ?_
  rw [RS.near, nfold_iff, nfold_iff, DS.near, nrs_mem, List.mem_append, same_vals hf hn, hc]
  constructor
  · rintro ((h | h) | h)
    · cases h
    · exact .inl h
    · exact .inr h
  · rintro (h | h)
    · exact .inl (.inr h)
    · exact .inr h
structure Lo (l : List Int) (k : Int) (ls : LS) (n : Nat) : Prop where
  inc : Inc l
  mem : ∀ i, i ∈ l ↔ (asc (k, i) ls).getD false = true
  rng : ∀ i, i ∈ l → 0 ≤ i ∧ i < (rsec n : Int)
theorem Lo.spots {l : List Int} {k : Int} {ls : LS} {n : Nat} (h : Lo l k ls n) : l = spotL ls k (rsec n) := by
  refine inc_ext h.inc ?_ fun x => ?_
  · rw [spotL, Inc, List.pairwise_map]
    exact (List.Pairwise.sublist List.filter_sublist List.pairwise_lt_range).imp fun h => by omega
  · rw [spotL, List.mem_map]
    constructor
    · intro hx
      obtain ⟨h1, h2⟩ := h.rng x hx
      refine ⟨x.toNat, List.mem_filter.2 ⟨List.mem_range.2 Zz, ?_⟩, by omega⟩
      have := (h.mem x).1 hx
      rw [show ((x.toNat : Nat) : Int) = x by omega]
      exact this
    · rintro ⟨j, hj, rfl⟩
      exact (h.mem _).2 (List.mem_filter.1 hj).2
theorem Lo.more {l : List Int} {k : Int} {ls : LS} {n n' : Nat} (h : Lo l k ls n) (hn : n ≤ n') : Lo l k ls n' := ⟨h.inc, h.mem, fun i hi => by have := h.rng i hi; rw [rsec] at *; omega⟩
theorem Lo.put {l : List Int} {k : Int} {ls : LS} {n s : Nat} (h : Lo l k ls n) (hs : s < rsec n) : Lo (lput (s : Int) l) k (X.put (k, (s : Int)) true ls) n := by
  refine ⟨lput_inc h.inc, fun i => ?_, fun i hi => ?_⟩
  · rw [lput_iff, asc_put, h.mem]
    by_cases hi : i = (s : Int)
    · simp [hi]
    · have : ¬ ((k, i) = (k, (s : Int))) := fun e => hi (by injection e)
      simp [hi, this]
  · rcases lput_mem hi with e | e
    · omega
    · exact h.rng i e
theorem Lo.mark {k : Int} {n : Nat} : ∀ (c s : Nat) {l : List Int} {ls : LS}, Lo l k ls n → s + c ≤ rsec n → Lo (rmark s c l) k (markL k s c ls) n
  | 0, _, _, _, h, _ => h
  | c + 1, s, l, ls, h, hs => Lo.mark c (s + 1) (h.put (s := s) Zz) Zz
theorem markL_asc {k k' i : Int} (hk : k' ≠ k) : ∀ (c s : Nat) (ls : LS), asc (k', i) (markL k s c ls) = asc (k', i) ls
  | 0, _, _ => rfl
  | c + 1, s, ls => by
    rw [markL, markL_asc hk c, asc_put, if_neg (fun e => hk (by injection e))]
theorem Lo.other {l : List Int} {k k' : Int} {ls : LS} {n : Nat} (h : Lo l k' ls n) (hk : k' ≠ k) (c s : Nat) : Lo l k' (markL k s c ls) n := ⟨h.inc, fun i => by rw [markL_asc hk]; exact h.mem i, h.rng⟩
theorem filt_asc (k : Int) (x : Int × Int) : ∀ ls : LS, asc x (ls.filter fun p => decide (p.1.1 ≠ k)) = if x.1 = k then none else asc x ls
  | [] => by simp [asc]
  | (a, u) :: ls => by
    have ih := filt_asc k x ls
    by_cases ha : a.1 = k
    · rw [List.filter_cons_of_neg (by simpa using ha), ih, asc]
      by_cases hx : x.1 = k
      · rw [if_pos hx, if_pos hx]
      · rw [if_neg hx, if_neg hx, if_neg (fun e => hx (by rw [e]; exact ha))]
    · rw [List.filter_cons_of_pos (by simpa using ha), asc, ih, asc]
      by_cases hx : x.1 = k
      · rw [if_pos hx, if_pos hx, if_neg (fun e => ha (by rw [← e]; exact hx))]
      · rw [if_neg hx, if_neg hx]
theorem Lo.synced (k : Int) (ls : LS) (n : Nat) : Lo [] k (ls.filter fun p => decide (p.1.1 ≠ k)) n := ⟨List.Pairwise.nil, fun i => by rw [filt_asc, if_pos rfl]; simp, fun i h => by cases h⟩
theorem Lo.kept {l : List Int} {k k' : Int} {ls : LS} {n : Nat} (h : Lo l k' ls n) (hk : k' ≠ k) : Lo l k' (ls.filter fun p => decide (p.1.1 ≠ k)) n := ⟨h.inc, fun i => by rw [filt_asc, if_neg hk]; exact h.mem i, h.rng⟩
structure Tie (s : DS) (t : RS) : Prop where
  rm : t.rm = s.rm
  has : t.has = s.fu
  left : t.left = s.lf
  chs : t.chs = s.chs
  len : t.fs.length = s.fs.length
  fs : ∀ (k : Nat) f g, s.fs[k]? = some f → t.fs[k]? = some g → g.1 = f.1 ∧ g.2.1 = f.2 ∧ Lo g.2.2 (k : Int) s.ls f.1.length
  dir : DirT s.dir t.dir
  fx : DirT s.fx t.fx
  out : ∀ p, p ∈ s.ls → p.1.1 < (s.fs.length : Int)
section
variable {s : DS} {t : RS}
theorem Tie.down (h : Tie s t) (hok : s.Ok) : t.down = s.down := by
  have := hok.lf
  rw [RS.down, DS.down, h.has, h.left, show decide (s.lf = 0) = decide (s.lf ≤ 0) from decide_eq_decide.2 Zz]
theorem Tie.find_none (h : Tie s t) {nm : ByteArray} (ha : asc nm s.dir = none) : rfind nm t.dir = -1 := by rw [rfind, h.dir.1, ha]; rfl
theorem Tie.find_some (h : Tie s t) {nm : ByteArray} {k : Int} (ha : asc nm s.dir = some k) : rfind nm t.dir = k := by rw [rfind, h.dir.1, ha]; rfl
theorem isNm_eq (nm : ByteArray) : isNm nm = rightN nm := by
  rw [isNm, rightN]
  refine decide_eq_decide.2 ⟨fun h => ⟨fun e => ?_, h.2⟩, fun h => ⟨?_, h.2⟩⟩
  · rw [e] at h; exact absurd h.1 (by decide)
  · refine Nat.pos_of_ne_zero fun e => h.1 ?_
    cases nm with | mk d =>
    have : d.size = 0 := e
    exact congrArg _ (Array.eq_empty_of_size_eq_zero this)
theorem keys_perm {d e : DIR} (h : DirT d e) (hd : (d.map (·.1)).Nodup) : (e.map (·.1)).Perm (d.map (·.1)) :=
  (List.perm_ext_iff_of_nodup h.2.nd hd).2 fun x => by
    constructor
    · intro hx
      refine Classical.byContradiction fun hn => ?_
      have h1 : asc x d = none := asc_none.2 fun p hp e => hn (List.mem_map.2 ⟨p, hp, e⟩)
      rw [← h.1] at h1
      obtain ⟨p, hp, e⟩ := List.mem_map.1 hx
      exact asc_none.1 h1 p hp e
    · intro hx
      refine Classical.byContradiction fun hn => ?_
      have h1 : asc x e = none := asc_none.2 fun p hp e => hn (List.mem_map.2 ⟨p, hp, e⟩)
      rw [h.1] at h1
      obtain ⟨p, hp, e⟩ := List.mem_map.1 hx
      exact asc_none.1 h1 p hp e
theorem Tie.dlen (h : Tie s t) (hok : s.Ok) : t.dir.length = s.dir.length := by
  have := (keys_perm h.dir hok.nd).length_eq
  rwa [List.length_map, List.length_map] at this
theorem Tie.flen (h : Tie s t) (k : Int) : (rfat t k).1 = (fat s.fs k).1 ∧ (rfat t k).2.1 = (fat s.fs k).2 := by
  rw [rfat, Go.Proofs.YtbljooblpfdbiaaGreatDoor.fat, List.getD_eq_getElem?_getD, List.getD_eq_getElem?_getD]
  by_cases hk : k.toNat < s.fs.length
  · obtain ⟨f, hf⟩ : ∃ f, s.fs[k.toNat]? = some f := ⟨_, List.getElem?_eq_getElem hk⟩
    obtain ⟨g, hg⟩ : ∃ g, t.fs[k.toNat]? = some g := ⟨_, List.getElem?_eq_getElem (by rw [h.len]; exact hk)⟩
    rw [hf, hg]
    obtain ⟨h1, h2, _⟩ := h.fs _ f g hf hg
    exact ⟨h1, h2⟩
  · rw [List.getElem?_eq_none (show s.fs.length ≤ k.toNat by omega), List.getElem?_eq_none (show t.fs.length ≤ k.toNat by rw [h.len]; omega)]; exact ⟨rfl, rfl⟩
theorem sum_perm {a b : List Nat} (h : a.Perm b) : a.sum = b.sum := h.sum_nat
theorem Tie.used (h : Tie s t) (hok : s.Ok) : t.used = s.used := by
  have e : ∀ l : DIR, (∀ p, p ∈ l → asc p.1 t.dir = some p.2) → rcost t l = ((l.map (·.1)).map (cost (Go.Proofs.YtbljooblpfdbiaaGreatDoor.flen s.fs) s.dir)).sum := by
    intro l hl
    rw [rcost, List.map_map]
    congr 1
    refine List.map_congr_left fun p hp => ?_
    have h1 := hl p hp
    rw [h.dir.1] at h1
    show rsec (rfat t p.2).1.length = cost (Go.Proofs.YtbljooblpfdbiaaGreatDoor.flen s.fs) s.dir p.1
    rw [cost, h1, (h.flen p.2).1]; rfl
  rw [RS.used, e t.dir (fun p hp => asc_mem h.dir.2.nd hp), DS.used, costs]
  exact sum_perm ((keys_perm h.dir hok.nd).map _)
end
def Both (a : Int × DS) (b : Int × RS) : Prop := b.1 = a.1 ∧ Tie a.2 b.2
section
variable {s : DS} {t : RS}
theorem Tie.did (h : Tie s t) : Tie s.did t.did := ⟨h.rm, h.has, by rw [RS.did, DS.did]; simp only [h.has, h.left], h.chs, h.len, h.fs, h.dir, h.fx, h.out⟩
theorem Tie.note (h : Tie s t) (hn : (s.dir.map (·.1)).Nodup) (c : CHG) : Tie (s.note c) (t.note c) := ⟨h.rm, h.has, h.left, by rw [RS.note, DS.note]; simp only [h.chs], h.len, h.fs, h.dir.trn hn c, h.fx, h.out⟩
theorem Tie.fuse (h : Tie s t) (n : Int) : Both (s.fuse n) (t.fuse n) := by
  rw [DS.fuse, RS.fuse]
  split
  · exact ⟨rfl, h⟩
  · exact ⟨rfl, h.rm, rfl, rfl, h.chs, h.len, h.fs, h.dir, h.fx, h.out⟩
theorem Tie.delete (h : Tie s t) (hok : s.Ok) (nm : ByteArray) : Both (s.delete nm) (t.delete nm) := by
  rw [DS.delete, RS.delete, h.down hok]
  split
  · exact ⟨rfl, h⟩
  · cases ha : asc nm s.dir with
    | none => rw [if_pos rfl, h.find_none ha, if_pos (by decide)]; exact ⟨rfl, h⟩
    | some k =>
      have hk := (hok.dir _ (asc_some ha)).1
      have hk : 0 ≤ k := hk
      rw [if_neg (by simp), h.find_some ha, if_neg Zz]; exact ⟨rfl, (h.note hok.nd _).did⟩
theorem Tie.create (h : Tie s t) (hok : s.Ok) (nm : ByteArray) : Both (s.create nm) (t.create nm) := by
  rw [DS.create, RS.create, h.down hok, isNm_eq, h.dlen hok]
  split
  · exact ⟨rfl, h⟩
  · split
    · exact ⟨rfl, h⟩
    · cases ha : asc nm s.dir with
      | some k =>
        have hk := (hok.dir _ (asc_some ha)).1
        have hk : 0 ≤ k := hk
        rw [if_pos (show (some k).isSome = true from rfl), h.find_some ha, if_pos hk]; exact ⟨rfl, h⟩
      | none =>
        rw [if_neg (show ¬ (none : Option Int).isSome = true by decide), h.find_none ha, if_neg (show ¬ (0 : Int) ≤ -1 by decide)]
        split
        · exact ⟨rfl, h⟩
        · suffices h0 : Tie ({ s with fs := s.fs ++ [([], [])] } : DS) ({ t with fs := t.fs ++ [([], [], [])] } : RS) by
            refine ⟨rfl, ?_⟩
            rw [h.len]
            exact (h0.note hok.nd _).did
          refine ⟨h.rm, h.has, h.left, h.chs, by simp [h.len], fun k f g h1 h2 => ?_, h.dir, h.fx, fun p hp => by have := h.out p hp; simp; omega⟩
          have h1' : (s.fs ++ [([], [])])[k]? = some f := h1
          have h2' : (t.fs ++ [([], [], [])])[k]? = some g := h2
          by_cases hk : k < s.fs.length
          · rw [List.getElem?_append_left hk] at h1'
            rw [List.getElem?_append_left (by rw [h.len]; exact hk)] at h2'
            exact h.fs k f g h1' h2'
          · have hl := (List.getElem?_eq_some_iff.1 h1').1
            rw [List.length_append, List.length_singleton] at hl
            have hk2 : k = s.fs.length := by omega
            subst hk2
            rw [List.getElem?_append_right (Nat.le_refl _), Nat.sub_self] at h1'
            rw [List.getElem?_append_right (by rw [h.len]; exact Nat.le_refl _), h.len, Nat.sub_self] at h2'
            cases h1'; cases h2'
            refine ⟨rfl, rfl, List.Pairwise.nil, fun i => ?_, fun i hi => by cases hi⟩
            have : asc ((s.fs.length : Int), i) s.ls = none := asc_none.2 fun p hp e => by have := h.out p hp; rw [e] at this; simp at this
            show i ∈ [] ↔ (asc ((s.fs.length : Int), i) s.ls).getD false = true
            rw [this]; simp
end
section
variable {s : DS} {t : RS}
theorem Tie.size (h : Tie s t) (hok : s.Ok) (nm : ByteArray) : t.sizeOf nm = s.sizeOf nm := by
  rw [DS.sizeOf, RS.sizeOf]
  cases ha : asc nm s.dir with
  | none => rw [h.find_none ha, if_pos (by decide)]
  | some k =>
    have hk : 0 ≤ k := (hok.dir _ (asc_some ha)).1
    rw [h.find_some ha, if_neg Zz, (h.flen k).1]; rfl
theorem Tie.read (h : Tie s t) (hok : s.Ok) (nm : ByteArray) (a n : Int) : t.read nm a n = s.read nm a n := by
  rw [DS.read, RS.read]
  cases ha : asc nm s.dir with
  | none => rw [h.find_none ha, if_pos (by decide)]
  | some k =>
    have hk : 0 ≤ k := (hok.dir _ (asc_some ha)).1
    rw [h.find_some ha, if_neg Zz, (h.flen k).1]
theorem Tie.set (h : Tie s t) {k : Int} (hk : 0 ≤ k ∧ k < s.fs.length) {f : FILE} {g : RF} {ls : LS} (h1 : g.1 = f.1 ∧ g.2.1 = f.2 ∧ Lo g.2.2 k ls f.1.length) (h2 : ∀ (j : Nat) l n, (j : Int) ≠ k → Lo l (j : Int) s.ls n → Lo l (j : Int) ls n) (h3 : ∀ p, p ∈ ls → p.1.1 < (s.fs.length : Int)) : Tie ({ s with fs := s.fs.set k.toNat f, ls := ls } : DS) ({ t with fs := t.fs.set k.toNat g } : RS) := by
  refine ⟨h.rm, h.has, h.left, h.chs, by simp [h.len], fun j f' g' a1 a2 => ?_, h.dir, h.fx, fun p hp => by have := h3 p hp; simpa using this⟩
  have a1' : (s.fs.set k.toNat f)[j]? = some f' := a1
  have a2' : (t.fs.set k.toNat g)[j]? = some g' := a2
  by_cases hj : j = k.toNat
  · subst hj
    rw [List.getElem?_set_self Zz] at a1'
    rw [List.getElem?_set_self (by rw [h.len]; omega)] at a2'
    cases a1'; cases a2'
    rw [show ((k.toNat : Nat) : Int) = k by omega]; exact h1
  · rw [List.getElem?_set_ne (fun e => hj e.symm)] at a1' a2'
    obtain ⟨b1, b2, b3⟩ := h.fs j f' g' a1' a2'
    exact ⟨b1, b2, h2 j _ _ Zz b3⟩
theorem Tie.sync (h : Tie s t) (hok : s.Ok) (nm : ByteArray) : Both (s.sync nm) (t.sync nm) := by
  rw [DS.sync, RS.sync, h.down hok]
  split
  · exact ⟨rfl, h⟩
  · cases ha : asc nm s.dir with
    | none => rw [h.find_none ha, if_pos (by decide)]; exact ⟨rfl, h⟩
    | some k =>
      obtain ⟨hk, hk2, _⟩ := hok.dir _ (asc_some ha)
      have hk : 0 ≤ k := hk
      have hk2 : k < s.fs.length := hk2
      rw [h.find_some ha, if_neg Zz, (h.flen k).1]
      exact ⟨rfl, Tie.did (h.set ⟨hk, hk2⟩ ⟨rfl, rfl, Lo.synced k s.ls _⟩ (fun j l n hj hl => hl.kept hj) (fun p hp => h.out p (List.mem_filter.1 hp).1))⟩
end
section
variable {s : DS} {t : RS}
theorem Tie.lo (h : Tie s t) {k : Int} (hk : 0 ≤ k ∧ k < s.fs.length) : Lo (rfat t k).2.2 k s.ls (Go.Proofs.YtbljooblpfdbiaaGreatDoor.fat s.fs k).1.length := by
  obtain ⟨f, hf⟩ : ∃ f, s.fs[k.toNat]? = some f := ⟨s.fs[k.toNat]'Zz, List.getElem?_eq_getElem _⟩
  obtain ⟨g, hg⟩ : ∃ g, t.fs[k.toNat]? = some g := ⟨t.fs[k.toNat]'(by rw [h.len]; omega), List.getElem?_eq_getElem _⟩
  obtain ⟨_, _, h3⟩ := h.fs _ f g hf hg
  rw [rfat_at hg, Go.Proofs.YtbljooblpfdbiaaGreatDoor.fat, List.getD_eq_getElem?_getD, hf]
  rw [show ((k.toNat : Nat) : Int) = k by omega] at h3
  exact h3
theorem markL_in {k n : Int} (hk : k < n) : ∀ (c q : Nat) (ls : LS), (∀ p, p ∈ ls → p.1.1 < n) → ∀ p, p ∈ markL k q c ls → p.1.1 < n
  | 0, _, _, h => h
  | c + 1, q, ls, h => markL_in hk c (q + 1) _ (fun p hp => by
      rcases put_mem hp with h1 | h1
      · rw [h1]; exact hk
      · exact h p h1)
theorem Tie.write (h : Tie s t) (hok : s.Ok) (nm : ByteArray) (a : Int) (y : List UInt8) : Both (s.write nm a y) (t.write nm a y) := by
  rw [DS.write, RS.write, h.down hok, h.rm, h.used hok]
  split
  · exact ⟨rfl, h⟩
  · cases ha : asc nm s.dir with
    | none => rw [h.find_none ha, if_pos (by decide)]; exact ⟨rfl, h⟩
    | some k =>
      obtain ⟨hk, hk2, _⟩ := hok.dir _ (asc_some ha)
      have hk : 0 ≤ k := hk
      have hk2 : k < s.fs.length := hk2
      have hlo := h.lo ⟨hk, hk2⟩
      rw [h.find_some ha, if_neg Zz, (h.flen k).1, (h.flen k).2]
      simp only
      split
      · exact ⟨rfl, h⟩
      · rename_i hr
        split
        · exact ⟨rfl, h⟩
        · have hadd : (s.used : Int) - (rsec (Go.Proofs.YtbljooblpfdbiaaGreatDoor.fat s.fs k).1.length : Int) + (rsec (max (Go.Proofs.YtbljooblpfdbiaaGreatDoor.fat s.fs k).1.length (a.toNat + y.length)) : Int) = (s.used : Int) + (secs (max (Go.Proofs.YtbljooblpfdbiaaGreatDoor.fat s.fs k).1.length (a.toNat + y.length)) : Int) - (secs (Go.Proofs.YtbljooblpfdbiaaGreatDoor.fat s.fs k).1.length : Int) := by
            simp only [rsec, secs]; omega
          rw [hadd]
          split
          · exact ⟨rfl, h⟩
          · have hwl := wrt_len (Go.Proofs.YtbljooblpfdbiaaGreatDoor.fat s.fs k).1 a.toNat y Zz
            have hL : Lo (rmark (a.toNat / 64) (rtouch a.toNat y.length) (rfat t k).2.2) k (markL k (a.toNat / 64) (touched a.toNat y.length) s.ls) (wrt (Go.Proofs.YtbljooblpfdbiaaGreatDoor.fat s.fs k).1 a.toNat y).length := by
              refine Lo.mark _ _ (hlo.more (by simp only [hwl]; omega)) ?_
              simp only [hwl, rtouch, rsec]
              split <;> omega
            have hs := h.set (f := (wrt (Go.Proofs.YtbljooblpfdbiaaGreatDoor.fat s.fs k).1 a.toNat y, (Go.Proofs.YtbljooblpfdbiaaGreatDoor.fat s.fs k).2)) (g := (rwrt (Go.Proofs.YtbljooblpfdbiaaGreatDoor.fat s.fs k).1 a.toNat y, (Go.Proofs.YtbljooblpfdbiaaGreatDoor.fat s.fs k).2, rmark (a.toNat / 64) (rtouch a.toNat y.length) (rfat t k).2.2)) (ls := markL k (a.toNat / 64) (touched a.toNat y.length) s.ls) ⟨hk, hk2⟩ ⟨rfl, rfl, hL⟩ (fun j l n hj hl => hl.other hj _ _) (markL_in hk2 _ _ _ h.out)
            rw [h.rm] at hs
            exact ⟨rfl, hs.did⟩
theorem looseL_tie (h : Tie s t) : ∀ l : List Int, (∀ k, k ∈ l → 0 ≤ k ∧ k < s.fs.length) → looseL s l = (rls t l, rcn t l)
  | [], _ => rfl
  | k :: l, hl => by
    have hk := hl k List.mem_cons_self
    have hsp := (h.lo hk).spots
    have e : s.spots k = (rfat t k).2.2 := hsp.symm
    rw [looseL, looseL_tie h l (fun x hx => hl x (List.mem_cons_of_mem _ hx)), e, ← (h.flen k).1, ← (h.flen k).2]
    rfl
theorem Tie.loose (h : Tie s t) (hok : s.Ok) (htk : t.Ok) : t.loose = s.loose := by
  have hn := near_tie h.fx hok.ndx h.chs
  rw [RS.loose, DS.loose, h.chs, ← hn, looseL_tie h t.near (fun k hk => by have := rnear_ok htk hk; rw [h.len] at this; exact this)]
end
theorem rinc_len : ∀ {l : List Int} {a : Int} {n : Nat}, Inc l → (∀ x, x ∈ l → a ≤ x ∧ x < a + n) → l.length ≤ n
  | [], _, _, _, _ => Nat.zero_le _
  | x :: l, a, n, h, hr => by
    obtain ⟨h1, h2⟩ := List.pairwise_cons.1 h
    have h3 := hr x List.mem_cons_self
    have := rinc_len (a := a + 1) (n := n - 1) h2 (fun y hy => by have h4 := h1 y hy; have h5 := hr y (List.mem_cons_of_mem _ hy); omega)
    rw [List.length_cons]; omega
theorem DirT.in_ {d e : DIR} (h : DirT d e) {p : ByteArray × Int} (hp : p ∈ e) : p ∈ d := by
  have := asc_mem h.2.nd (x := p.1) (u := p.2) hp
  rw [h.1] at this
  exact asc_some this
theorem Tie.ok {s : DS} {t : RS} (h : Tie s t) (hok : s.Ok) (hs : s.size ≤ 50000) : t.Ok := by
  have hsz : s.fs.length + s.chs.length ≤ 50000 := hs
  refine ⟨by rw [h.rm]; exact hok.rm, fun p hp => ?_, fun p hp => ?_, fun c hc he => ?_, fun g hg => ?_, by rw [h.dlen hok]; exact hok.few, ?_, ⟨by rw [h.len]; omega, by rw [h.chs]; omega⟩, by rw [h.left]; exact hok.lf⟩
  · have := hok.dir p (h.dir.in_ hp); rw [h.len]; exact ⟨this.1, this.2.1⟩
  · have := hok.fx p (h.fx.in_ hp); rw [h.len]; exact ⟨this.1, this.2.1⟩
  · rw [h.chs] at hc; rw [h.len]; exact hok.chs c hc he
  · obtain ⟨k, hk⟩ := List.getElem?_of_mem hg
    have hkl := (List.getElem?_eq_some_iff.1 hk).1
    obtain ⟨f, hf⟩ : ∃ f, s.fs[k]? = some f := ⟨s.fs[k]'(by rw [← h.len]; exact hkl), List.getElem?_eq_getElem _⟩
    obtain ⟨h1, h2, h3⟩ := h.fs k f g hf hk
    have hff := hok.fs f (List.mem_of_getElem? hf)
    have hr : ∀ i, i ∈ g.2.2 → 0 ≤ i ∧ i < 16384 := fun i hi => by have := h3.rng i hi; rw [rsec] at this; omega
    refine ⟨by rw [h1]; exact hff.1, by rw [h2]; exact hff.2, rinc_len (a := 0) (n := 16384) h3.inc (fun x hx => by have := hr x hx; omega), hr⟩
  · have := (keys_perm h.fx hok.ndx).length_eq
    rw [List.length_map, List.length_map] at this
    rw [this]; exact hok.fewx
end Go.Proofs.YtbljooblpfdbiaaGreatDoor
