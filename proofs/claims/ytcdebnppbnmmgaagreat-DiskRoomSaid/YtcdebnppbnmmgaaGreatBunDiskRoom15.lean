/- Texts that the proof of DiskRoom stands on, part 15. -/
import Derived.Shelf.Sort.Plain
import Derived.Shelf.Slices.In.SortNone
import Derived.Shelf.Slices.CompactI
import Derived.Sort.OwnSorted
import Derived.Sort.OwnSortedInts
import Derived.Test.YtcdebnppbnmmgaaGreatProg
import Derived.Test.YtcdebnppbnmmgaaGreatBunDiskRoom14

namespace Go.Proofs.YtcdebnppbnmmgaaGreat.X
open Go Go.Proofs Go.Sort Go.Shelf Go.RowKit
set_option linter.unusedSimpArgs false
set_option linter.unusedVariables false
/-! ### what slices.Compact keeps -/
section
variable {d : Array Int} {zs : List Int}
theorem cut_len (d : Array Int) (m : Nat) : (Lib.compactUpTo d m).length ≤ m := by
  rw [Lib.compactUpTo, List.length_map]
  exact Nat.le_trans (List.length_filter_le _ _) (by simp)
theorem get!_mem {d : Array Int} {j : Nat} (h : j < d.size) : d[j]! ∈ d.toList := by
  rw [getElem!_pos d j h]; simp
theorem cut_sub {m : Nat} (hm : m ≤ d.size) {x : Int} (h : x ∈ Lib.compactUpTo d m) : ∃ j, j < m ∧ x = d[j]! := by
  obtain ⟨j, hj, rfl⟩ := List.mem_map.1 h
  exact ⟨j, List.mem_range.1 (List.mem_filter.1 hj).1, rfl⟩
theorem cut_mem (d : Array Int) : ∀ (m j : Nat), j < m → d[j]! ∈ Lib.compactUpTo d m
  | 0, j, h => by omega
  | m + 1, j, h => by
    rw [Lib.compactUpTo_succ]
    rcases Nat.lt_or_ge j m with hj | hj
    · exact List.mem_append_left _ (cut_mem d m j hj)
    · have : j = m := by omega
      subst this
      by_cases hk : Lib.keeps d j = true
      · rw [if_pos hk]; exact List.mem_append_right _ (by simp)
      · have h1 : ¬ (j = 0 ∨ d[j]! ≠ d[j - 1]!) := fun h => hk (by simp only [Lib.keeps, decide_eq_true_eq]; exact h)
        have h2 : j ≠ 0 := fun e => h1 (.inl e)
        have h3 : d[j]! = d[j - 1]! := Classical.byContradiction fun e => h1 (.inr e)
        rw [h3]
        exact List.mem_append_left _ (cut_mem d j (j - 1) (by omega))
theorem cut_inc (hs : ∀ i j, i ≤ j → j < d.size → d[i]! ≤ d[j]!) : ∀ m, m ≤ d.size → (Lib.compactUpTo d m).Pairwise (· < ·)
  | 0, _ => by simp [Lib.compactUpTo]
  | m + 1, hm => by
    rw [Lib.compactUpTo_succ]
    have ih := cut_inc hs m (by omega)
    by_cases hk : Lib.keeps d m = true
    · rw [if_pos hk]
      refine List.pairwise_append.2 ⟨ih, by simp, fun a ha b hb => ?_⟩
      simp only [List.mem_singleton] at hb
      subst hb
      obtain ⟨j, hj, rfl⟩ := cut_sub (by omega) ha
      simp only [Lib.keeps, decide_eq_true_eq] at hk
      rcases hk with hk | hk
      · omega
      · have h1 := hs j (m - 1) (by omega) (by omega)
        have h2 := hs (m - 1) m (by omega) (by omega)
        omega
    · rw [if_neg hk, List.append_nil]; exact ih
theorem compact_length_le (zs : List Int) : (Lib.compact zs).length ≤ zs.length := cut_len _ _
theorem compact_sub (zs : List Int) : ∀ x, x ∈ Lib.compact zs → x ∈ zs := fun x h => by
  obtain ⟨j, hj, rfl⟩ := cut_sub (d := zs.toArray) (by simp) h
  simpa using get!_mem (d := zs.toArray) (j := j) (by simpa using hj)
theorem compact_mem {x : Int} (h : x ∈ zs) : x ∈ Lib.compact zs := by
  obtain ⟨j, hj⟩ := List.getElem?_of_mem h
  have hl := (List.getElem?_eq_some_iff.1 hj).1
  have := cut_mem zs.toArray zs.length j hl
  rw [getElem!_pos zs.toArray j (by simpa using hl)] at this
  have e : zs.toArray[j]'(by simpa using hl) = x := by
    have := (List.getElem?_eq_some_iff.1 hj).2
    simpa using this
  rw [e] at this
  exact this
theorem compact_inc (h : zs.Pairwise (· ≤ ·)) : (Lib.compact zs).Pairwise (· < ·) := by
  refine cut_inc (fun i j hij hj => ?_) zs.length (by simp)
  have hj' : j < zs.length := by simpa using hj
  rw [getElem!_pos zs.toArray i (by simp; omega), getElem!_pos zs.toArray j hj]
  simp only [List.getElem_toArray]
  rcases Nat.lt_or_ge i j with h1 | h1
  · exact List.pairwise_iff_getElem.1 h i j (by omega) hj' h1
  · have : i = j := by omega
    subst this; exact Int.le_refl _
/-- Numbers in order, none twice. -/
def nrs (l : List Int) : List Int := Lib.compact (l.mergeSort fun x y => decide (x ≤ y))
theorem nrs_mem {l : List Int} {x : Int} : x ∈ nrs l ↔ x ∈ l := ⟨fun h => List.mem_mergeSort.1 (compact_sub _ x h), fun h => compact_mem (List.mem_mergeSort.2 h)⟩
theorem nrs_inc (l : List Int) : (nrs l).Pairwise (· < ·) := compact_inc (by
  have := List.pairwise_mergeSort (le := fun x y : Int => decide (x ≤ y)) (by intro a b c; simp; omega) (by intro a b; simp; omega) l
  exact this.imp (by simp))
end
section
variable {P : Program} {ρ : Ren} {w w' : World} {e : TypeId} {S : Nat → Prop} {A : Option Addr} {n c : Nat}
/-- Rows of data of one cell. -/
theorem reps_one {α : Type} {enc : α → Value} {ok : α → Prop} {hl : ∀ x, ([enc x] : List Value).length = 1} {h1 : ∀ x u, u ∈ ([enc x] : List Value) → u.oneCell' = true} {lo hi : Nat} : ∀ {xs : List α} {cs : List Value}, Reps (Kd.plain 1 (fun x => [enc x]) ok hl h1) lo hi w xs cs ↔ cs = xs.map enc ∧ ∀ x, x ∈ xs → ok x
  | [], cs => ⟨fun h => ⟨h, fun _ h => by cases h⟩, fun h => h.1⟩
  | x :: xs, cs => by
    constructor
    · rintro ⟨a, b, rfl, ⟨rfl, h2⟩, h3⟩
      obtain ⟨rfl, h4⟩ := reps_one.1 h3
      exact ⟨rfl, fun y hy => (List.mem_cons.1 hy).elim (fun e => e ▸ h2) (h4 y)⟩
    · rintro ⟨rfl, h2⟩
      exact ⟨[enc x], xs.map enc, rfl, ⟨rfl, h2 x List.mem_cons_self⟩, reps_one.2 ⟨rfl, fun y hy => h2 y (List.mem_cons_of_mem _ hy)⟩⟩
theorem KI_reps {lo hi : Nat} {xs : List Int} {cs : List Value} : Reps KI lo hi w xs cs ↔ cs = xs.map (Value.int .i64) ∧ ∀ x, x ∈ xs → -9223372036854775808 ≤ x ∧ x ≤ 9223372036854775807 := reps_one
theorem KS_reps {lo hi : Nat} {xs : List ByteArray} {cs : List Value} : Reps KS lo hi w xs cs ↔ cs = xs.map Value.string ∧ ∀ x, x ∈ xs → x.size ≤ 9223372036854775807 := reps_one
theorem ext_grown {g : Nat} (h : w.grownBy w' (some g)) (hS : S g) : Ext S w w' := (Ext.of_grown h).mono fun k _ hk => by cases hk; exact hS
/-- Names in order. -/
def sortB (xs : List ByteArray) : List ByteArray := ((xs.map fun s => s.data.toList).mergeSort fun x y => decide (x ≤ y)).map fun l => ⟨l.toArray⟩
/-- slices.Sort of ints. -/
theorem sortI {xs : List Int} (Ly : Lays.n189 P ρ) (h : Mine KI e S 0 0 w (.slice A n c) xs) (hn : n < 4611686018427387904) : RetN P (ρ.f 189) #[.slice A n c] w fun r w' => r = .tuple #[] ∧ Mine KI e S 0 0 w' (.slice A n c) (xs.mergeSort fun x y => decide (x ≤ y)) ∧ Ext S w w' := by
  have hlen := h.len
  obtain ⟨b, ⟨⟨cs, hr, ho⟩, hb⟩, hS⟩ := id h
  obtain ⟨rfl, hok⟩ := KI_reps.1 hr
  rcases ho.2 with ⟨h0, h1⟩ | ⟨g, cap, cur, he, hg, hh, hnc, hcm, hcs, htk⟩
  · injection h0 with e1 e2 e3
    subst e1 e2 e3
    have hx : xs = [] := List.eq_nil_of_length_eq_zero h1
    subst hx
    exact RetN.of (Any.slices_Sort_int_none Ly none 0 w) fun e w' ⟨h1, h2⟩ => ⟨_, h1, rfl, by subst h2; simpa [sortB] using h, by subst h2; exact Ext.refl _ _⟩
  · injection he with e1 e2 e3
    subst e1 e3
    have hSg : S g := hS g (by rw [← hb]; rfl)
    have e2' : n = xs.length := e2
    subst e2'
    have hsz1 : KI.sz = 1 := rfl
    rw [hsz1, Nat.mul_one] at htk
    refine RetN.of (Any.slices_Sort_int Ly g 0 c xs w (holds_of_blockI hh htk) (Array.getElem?_eq_some_iff.1 hh).1 hn) ?_
    rintro e' w' ⟨h1, k, os, rfl⟩
    refine ⟨_, h1, rfl, ⟨b, ⟨⟨_, KI_reps.2 ⟨rfl, fun x hx => hok x (List.mem_mergeSort.1 hx)⟩, ?_⟩, hb⟩, hS⟩, ext_grown (grownBy_sortedI _) hSg⟩
    rw [List.length_mergeSort]
    exact ownsRow_sortedI (by simp) hg hh hnc hcm hcs
theorem sortB_mem {xs : List ByteArray} {s : ByteArray} : s ∈ sortB xs ↔ s ∈ xs := by
  constructor
  · intro h
    obtain ⟨l, hl, rfl⟩ := List.mem_map.1 h
    obtain ⟨t, ht, rfl⟩ := List.mem_map.1 (List.mem_mergeSort.1 hl)
    exact ht
  · intro h
    exact List.mem_map.2 ⟨s.data.toList, List.mem_mergeSort.2 (List.mem_map.2 ⟨s, h, rfl⟩), rfl⟩
theorem sortB_len (xs : List ByteArray) : (sortB xs).length = xs.length := by simp [sortB]
/-- slices.Sort of strings. -/
theorem sortS {xs : List ByteArray} (Ly : Lays.n190 P ρ) (h : Mine KS e S 0 0 w (.slice A n c) xs) (hn : n < 4611686018427387904) : RetN P (ρ.f 190) #[.slice A n c] w fun r w' => r = .tuple #[] ∧ Mine KS e S 0 0 w' (.slice A n c) (sortB xs) ∧ Ext S w w' := by
  have hlen := h.len
  obtain ⟨b, ⟨⟨cs, hr, ho⟩, hb⟩, hS⟩ := id h
  obtain ⟨rfl, hok⟩ := KS_reps.1 hr
  rcases ho.2 with ⟨h0, h1⟩ | ⟨g, cap, cur, he, hg, hh, hnc, hcm, hcs, htk⟩
  · injection h0 with e1 e2 e3
    subst e1 e2 e3
    have hx : xs = [] := List.eq_nil_of_length_eq_zero h1
    subst hx
    exact RetN.of (Any.slices_Sort_string_none Ly none 0 w) fun e w' ⟨h1, h2⟩ => ⟨_, h1, rfl, by subst h2; simpa [sortB] using h, by subst h2; exact Ext.refl _ _⟩
  · injection he with e1 e2 e3
    subst e1 e3
    have hSg : S g := hS g (by rw [← hb]; rfl)
    have e2' : n = xs.length := e2
    subst e2'
    have hsz1 : KS.sz = 1 := rfl
    rw [hsz1, Nat.mul_one] at htk
    have hll : (xs.map fun s => s.data.toList).length = xs.length := by simp
    have htk2 : cur.toList.take (xs.map fun s => s.data.toList).length = (xs.map fun s => s.data.toList).map encStr := by rw [hll, htk, List.map_map]; rfl
    have hc := Any.slices_Sort_string Ly g 0 c (xs.map fun s => s.data.toList) w (holds_of_block hh htk2) (Array.getElem?_eq_some_iff.1 hh).1 (by rw [hll]; exact hn)
    rw [hll] at hc
    refine RetN.of hc ?_
    rintro e' w' ⟨h1, k, os, rfl⟩
    refine ⟨_, h1, rfl, ⟨b, ⟨⟨_, KS_reps.2 ⟨rfl, fun x hx => hok x (sortB_mem.1 hx)⟩, ?_⟩, hb⟩, hS⟩, ext_grown (grownBy_sorted _) hSg⟩
    have hm : (sortB xs).map Value.string = ((xs.map fun s => s.data.toList).mergeSort fun x y => decide (x ≤ y)).map encStr := by
      rw [sortB, List.map_map]; rfl
    rw [hm, sortB_len]
    have := ownsRow_sorted (w := w) (base := 0) (g := g) (cap := c) (n := k) (e := e) (os := os) (cur := cur) (ss := xs.map fun s => s.data.toList) (ts := (xs.map fun s => s.data.toList).mergeSort fun x y => decide (x ≤ y)) (by simp) hg hh (by rw [hll]; exact hnc) hcm hcs
    rw [hll] at this
    exact this
/-- slices.Compact of ints. -/
theorem compactI {xs : List Int} (Ly : Lays2.n20 P ρ) (h : Mine KI e S 0 0 w (.slice A n c) xs) : RetN P (ρ.f 20) #[.slice A n c] w fun r w' => r = .slice A (Lib.compact xs).length c ∧ (Lib.compact xs).length ≤ c ∧ Mine KI e S 0 0 w' (.slice A (Lib.compact xs).length c) (Lib.compact xs) ∧ Ext S w w' := by
  have hlen := h.len
  have hle := compact_length_le xs
  have hsub := compact_sub xs
  obtain ⟨b, ⟨⟨cs, hr, ho⟩, hb⟩, hS⟩ := id h
  obtain ⟨rfl, hok⟩ := KI_reps.1 hr
  rcases ho.2 with ⟨h0, h1⟩ | ⟨g, cap, cur, he, hg, hh, hnc, hcm, hcs, htk⟩
  · injection h0 with e1 e2 e3
    subst e1 e2 e3
    have hx : xs = [] := List.eq_nil_of_length_eq_zero h1
    subst hx
    exact RetN.of (Any.slices_Compact_int_empty Ly none 0 w) fun e w' ⟨h1, h2⟩ => ⟨_, h1, rfl, Nat.le_refl _, by subst h2; exact h, by subst h2; exact Ext.refl _ _⟩
  · injection he with e1 e2 e3
    subst e1 e3
    have hSg : S g := hS g (by rw [← hb]; rfl)
    have e2' : n = xs.length := e2
    subst e2'
    have hsz1 : KI.sz = 1 := rfl
    rw [hsz1, Nat.mul_one] at htk
    refine RetN.of (Any.slices_Compact_int Ly g 0 c xs w (holds_of_blockI hh htk) (by simp only [maxLen] at hcm; omega) hnc) ?_
    rintro e' w' ⟨h1, k, rfl⟩
    have hex := grownBy_sortedI (w := w) (g := g) (n := k) (os := #[]) (Lib.compact xs ++ List.replicate (xs.length - (Lib.compact xs).length) 0).toArray
    rw [grow_empty] at hex
    refine ⟨_, h1, rfl, Nat.le_trans hle hnc, ?_, ext_grown hex hSg⟩
    have hM : Mine KI e S 0 0 (putRow (Value.int .i64) (Sort.ahead w k) g 0 (Lib.compact xs ++ List.replicate (xs.length - (Lib.compact xs).length) 0).toArray) (.slice (some ⟨g, 0, none⟩) xs.length c) (Lib.compact xs ++ List.replicate (xs.length - (Lib.compact xs).length) 0) := by
      have hl2 : (Lib.compact xs ++ List.replicate (xs.length - (Lib.compact xs).length) 0).length = xs.length := by rw [List.length_append, List.length_replicate]; omega
      refine ⟨b, ⟨⟨_, KI_reps.2 ⟨rfl, fun x hx => ?_⟩, ?_⟩, hb⟩, hS⟩
      · rcases List.mem_append.1 hx with hx | hx
        · exact hok x (hsub x hx)
        · rw [(List.mem_replicate.1 hx).2]; omega
      · have := ownsRow_sortedI (w := w) (base := 0) (g := g) (cap := c) (n := k) (e := e) (os := #[]) (cur := cur) (ss := xs) (ts := Lib.compact xs ++ List.replicate (xs.length - (Lib.compact xs).length) 0) hl2 hg hh hnc hcm hcs
        rw [grow_empty] at this
        rw [hl2]
        exact this
    have := hM.take (Lib.compact xs).length hle
    rw [List.take_left] at this
    exact this
end
end Go.Proofs.YtcdebnppbnmmgaaGreat.X

namespace Go.Proofs.YtcdebnppbnmmgaaGreat
open Go
open Go.Shelf
def lay189_ren : Go.Shelf.Ren := ⟨fun | 189 => 70 | 125 => 79 | 257 => 78 | 128 => 91 | 129 => 92 | 294 => 82 | 295 => 83 | 296 => 84 | 297 => 85 | 298 => 86 | 299 => 87 | 216 => 88 | 300 => 89 | 301 => 90 | 328 => 102 | 329 => 103 | 330 => 104 | 331 => 105 | 332 => 106 | 215 => 107 | 343 => 112 | n => n, fun | 28 => 95 | 3 => 3 | 46 => 134 | 0 => 0 | 51 => 146 | 53 => 148 | 4 => 4 | 183 => 139 | 182 => 138 | 131 => 38 | 5 => 5 | 9 => 9 | 218 => 155 | 222 => 159 | 228 => 164 | 229 => 40 | n => n, fun | n => n⟩
theorem lay189 : Go.Proofs.Lays.n189 Tryz.prog lay189_ren := {
  mixed := by kernel_rfl
  f125 := Tryz.func79.trans (congrArg some (by kernel_rfl))
  f128 := Tryz.func91.trans (congrArg some (by kernel_rfl))
  f129 := Tryz.func92.trans (congrArg some (by kernel_rfl))
  f189 := Tryz.func70.trans (congrArg some (by kernel_rfl))
  f215 := Tryz.func107.trans (congrArg some (by kernel_rfl))
  f216 := Tryz.func88.trans (congrArg some (by kernel_rfl))
  f257 := Tryz.func78.trans (congrArg some (by kernel_rfl))
  f294 := Tryz.func82.trans (congrArg some (by kernel_rfl))
  f295 := Tryz.func83.trans (congrArg some (by kernel_rfl))
  f296 := Tryz.func84.trans (congrArg some (by kernel_rfl))
  f297 := Tryz.func85.trans (congrArg some (by kernel_rfl))
  f298 := Tryz.func86.trans (congrArg some (by kernel_rfl))
  f299 := Tryz.func87.trans (congrArg some (by kernel_rfl))
  f300 := Tryz.func89.trans (congrArg some (by kernel_rfl))
  f301 := Tryz.func90.trans (congrArg some (by kernel_rfl))
  f328 := Tryz.func102.trans (congrArg some (by kernel_rfl))
  f329 := Tryz.func103.trans (congrArg some (by kernel_rfl))
  f330 := Tryz.func104.trans (congrArg some (by kernel_rfl))
  f331 := Tryz.func105.trans (congrArg some (by kernel_rfl))
  f332 := Tryz.func106.trans (congrArg some (by kernel_rfl))
  f343 := Tryz.func112.trans (congrArg some (by kernel_rfl))
  t0 := Tryz.underlying0
  a0 := Tryz.isAgg0
  z0 := Tryz.sizeOf0
  v0 := Tryz.zeroValue0
  t3 := Tryz.underlying3
  a3 := Tryz.isAgg3
  z3 := Tryz.sizeOf3
  v3 := Tryz.zeroValue3
  t4 := Tryz.underlying4
  a4 := Tryz.isAgg4
  z4 := Tryz.sizeOf4
  v4 := Tryz.zeroValue4
  t5 := Tryz.underlying5
  a5 := Tryz.isAgg5
  z5 := Tryz.sizeOf5
  v5 := Tryz.zeroValue5
  t9 := Tryz.underlying9
  a9 := Tryz.isAgg9
  z9 := Tryz.sizeOf9
  v9 := Tryz.zeroValue9
  t28 := Tryz.underlying95
  a28 := Tryz.isAgg95
  z28 := Tryz.sizeOf95
  v28 := Tryz.zeroValue95
  t46 := Tryz.underlying134
  a46 := Tryz.isAgg134
  z46 := Tryz.sizeOf134
  v46 := Tryz.zeroValue134
  t51 := Tryz.underlying146
  a51 := Tryz.isAgg146
  z51 := Tryz.sizeOf146
  v51 := Tryz.zeroValue146
  t53 := Tryz.underlying148
  a53 := Tryz.isAgg148
  z53 := Tryz.sizeOf148
  v53 := Tryz.zeroValue148
  t131 := Tryz.underlying38
  a131 := Tryz.isAgg38
  z131 := Tryz.sizeOf38
  v131 := Tryz.zeroValue38
  t182 := Tryz.underlying138
  a182 := Tryz.isAgg138
  z182 := Tryz.sizeOf138
  v182 := Tryz.zeroValue138
  t183 := Tryz.underlying139
  a183 := Tryz.isAgg139
  z183 := Tryz.sizeOf139
  v183 := Tryz.zeroValue139
  t218 := Tryz.underlying155
  a218 := Tryz.isAgg155
  z218 := Tryz.sizeOf155
  v218 := Tryz.zeroValue155
  t222 := Tryz.underlying159
  a222 := Tryz.isAgg159
  z222 := Tryz.sizeOf159
  v222 := Tryz.zeroValue159
  t228 := Tryz.underlying164
  a228 := Tryz.isAgg164
  z228 := Tryz.sizeOf164
  v228 := Tryz.zeroValue164
  t229 := Tryz.underlying40
  a229 := Tryz.isAgg40
  z229 := Tryz.sizeOf40
  v229 := Tryz.zeroValue40 }
def lay190_ren : Go.Shelf.Ren := ⟨fun | 190 => 76 | 125 => 79 | 258 => 81 | 128 => 91 | 129 => 92 | 302 => 93 | 303 => 94 | 304 => 95 | 305 => 96 | 306 => 97 | 307 => 98 | 308 => 99 | 309 => 100 | 310 => 101 | 333 => 108 | 329 => 103 | 330 => 104 | 334 => 109 | 335 => 110 | 336 => 111 | 344 => 113 | n => n, fun | 31 => 72 | 9 => 9 | 3 => 3 | 46 => 134 | 0 => 0 | 51 => 146 | 53 => 148 | 4 => 4 | 183 => 139 | 182 => 138 | 131 => 38 | 5 => 5 | 218 => 155 | 222 => 159 | 228 => 164 | 229 => 40 | n => n, fun | n => n⟩
theorem lay190 : Go.Proofs.Lays.n190 Tryz.prog lay190_ren := {
  mixed := by kernel_rfl
  f125 := Tryz.func79.trans (congrArg some (by kernel_rfl))
  f128 := Tryz.func91.trans (congrArg some (by kernel_rfl))
  f129 := Tryz.func92.trans (congrArg some (by kernel_rfl))
  f190 := Tryz.func76.trans (congrArg some (by kernel_rfl))
  f258 := Tryz.func81.trans (congrArg some (by kernel_rfl))
  f302 := Tryz.func93.trans (congrArg some (by kernel_rfl))
  f303 := Tryz.func94.trans (congrArg some (by kernel_rfl))
  f304 := Tryz.func95.trans (congrArg some (by kernel_rfl))
  f305 := Tryz.func96.trans (congrArg some (by kernel_rfl))
  f306 := Tryz.func97.trans (congrArg some (by kernel_rfl))
  f307 := Tryz.func98.trans (congrArg some (by kernel_rfl))
  f308 := Tryz.func99.trans (congrArg some (by kernel_rfl))
  f309 := Tryz.func100.trans (congrArg some (by kernel_rfl))
  f310 := Tryz.func101.trans (congrArg some (by kernel_rfl))
  f329 := Tryz.func103.trans (congrArg some (by kernel_rfl))
  f330 := Tryz.func104.trans (congrArg some (by kernel_rfl))
  f333 := Tryz.func108.trans (congrArg some (by kernel_rfl))
  f334 := Tryz.func109.trans (congrArg some (by kernel_rfl))
  f335 := Tryz.func110.trans (congrArg some (by kernel_rfl))
  f336 := Tryz.func111.trans (congrArg some (by kernel_rfl))
  f344 := Tryz.func113.trans (congrArg some (by kernel_rfl))
  t0 := Tryz.underlying0
  a0 := Tryz.isAgg0
  z0 := Tryz.sizeOf0
  v0 := Tryz.zeroValue0
  t3 := Tryz.underlying3
  a3 := Tryz.isAgg3
  z3 := Tryz.sizeOf3
  v3 := Tryz.zeroValue3
  t4 := Tryz.underlying4
  a4 := Tryz.isAgg4
  z4 := Tryz.sizeOf4
  v4 := Tryz.zeroValue4
  t5 := Tryz.underlying5
  a5 := Tryz.isAgg5
  z5 := Tryz.sizeOf5
  v5 := Tryz.zeroValue5
  t9 := Tryz.underlying9
  a9 := Tryz.isAgg9
  z9 := Tryz.sizeOf9
  v9 := Tryz.zeroValue9
  t31 := Tryz.underlying72
  a31 := Tryz.isAgg72
  z31 := Tryz.sizeOf72
  v31 := Tryz.zeroValue72
  t46 := Tryz.underlying134
  a46 := Tryz.isAgg134
  z46 := Tryz.sizeOf134
  v46 := Tryz.zeroValue134
  t51 := Tryz.underlying146
  a51 := Tryz.isAgg146
  z51 := Tryz.sizeOf146
  v51 := Tryz.zeroValue146
  t53 := Tryz.underlying148
  a53 := Tryz.isAgg148
  z53 := Tryz.sizeOf148
  v53 := Tryz.zeroValue148
  t131 := Tryz.underlying38
  a131 := Tryz.isAgg38
  z131 := Tryz.sizeOf38
  v131 := Tryz.zeroValue38
  t182 := Tryz.underlying138
  a182 := Tryz.isAgg138
  z182 := Tryz.sizeOf138
  v182 := Tryz.zeroValue138
  t183 := Tryz.underlying139
  a183 := Tryz.isAgg139
  z183 := Tryz.sizeOf139
  v183 := Tryz.zeroValue139
  t218 := Tryz.underlying155
  a218 := Tryz.isAgg155
  z218 := Tryz.sizeOf155
  v218 := Tryz.zeroValue155
  t222 := Tryz.underlying159
  a222 := Tryz.isAgg159
  z222 := Tryz.sizeOf159
  v222 := Tryz.zeroValue159
  t228 := Tryz.underlying164
  a228 := Tryz.isAgg164
  z228 := Tryz.sizeOf164
  v228 := Tryz.zeroValue164
  t229 := Tryz.underlying40
  a229 := Tryz.isAgg40
  z229 := Tryz.sizeOf40
  v229 := Tryz.zeroValue40 }
def lay2_20_ren : Go.Shelf.Ren := ⟨fun | 20 => 71 | n => n, fun | 22 => 95 | 3 => 3 | 4 => 4 | 0 => 0 | n => n, fun | n => n⟩
theorem lay2_20 : Go.Proofs.Lays2.n20 Tryz.prog lay2_20_ren := {
  mixed := by kernel_rfl
  f20 := Tryz.func71.trans (congrArg some (by kernel_rfl))
  t0 := Tryz.underlying0
  a0 := Tryz.isAgg0
  z0 := Tryz.sizeOf0
  v0 := Tryz.zeroValue0
  t3 := Tryz.underlying3
  a3 := Tryz.isAgg3
  z3 := Tryz.sizeOf3
  v3 := Tryz.zeroValue3
  t4 := Tryz.underlying4
  a4 := Tryz.isAgg4
  z4 := Tryz.sizeOf4
  v4 := Tryz.zeroValue4
  t22 := Tryz.underlying95
  a22 := Tryz.isAgg95
  z22 := Tryz.sizeOf95
  v22 := Tryz.zeroValue95
  i3 := by kernel_rfl }
end Go.Proofs.YtcdebnppbnmmgaaGreat

namespace Go.Proofs.YtcdebnppbnmmgaaGreat
open Go Go.Proofs.YtcdebnppbnmmgaaGreat.X
set_option linter.unusedVariables false
set_option linter.unusedSimpArgs false
theorem EId : ElemInfo Tryz.prog 3 1 8 := ElemInfo.of (z := .int .i64 0) (by kernel_rfl) rfl rfl rfl
theorem repsI1 {w : World} {x : Int} (h : -9223372036854775808 ≤ x ∧ x ≤ 9223372036854775807) : RepsV KI w [x] [.int .i64 x] := ⟨⟨_, rfl, rfl, h⟩, trivial⟩
section
variable {w : World} {e : TypeId} {S : Nat → Prop} {A : Option Addr} {n c : Nat}
theorem sortInt_c {xs : List Int} (h : Mine KI e S 0 0 w (.slice A n c) xs) (hn : n < 4611686018427387904) : RetN Tryz.prog 70 #[.slice A n c] w fun r w' => r = .tuple #[] ∧ Mine KI e S 0 0 w' (.slice A n c) (xs.mergeSort fun x y => decide (x ≤ y)) ∧ Ext S w w' := sortI lay189 h hn
theorem sortStr_c {xs : List ByteArray} (h : Mine KS e S 0 0 w (.slice A n c) xs) (hn : n < 4611686018427387904) : RetN Tryz.prog 76 #[.slice A n c] w fun r w' => r = .tuple #[] ∧ Mine KS e S 0 0 w' (.slice A n c) (sortB xs) ∧ Ext S w w' := sortS lay190 h hn
theorem compInt_c {xs : List Int} (h : Mine KI e S 0 0 w (.slice A n c) xs) : RetN Tryz.prog 71 #[.slice A n c] w fun r w' => r = .slice A (Lib.compact xs).length c ∧ (Lib.compact xs).length ≤ c ∧ Mine KI e S 0 0 w' (.slice A (Lib.compact xs).length c) (Lib.compact xs) ∧ Ext S w w' := compactI lay2_20 h
end
theorem inc_eq : ∀ {a b : List Int}, a.Pairwise (· < ·) → b.Pairwise (· < ·) → (∀ x, x ∈ a ↔ x ∈ b) → a = b
  | [], [], _, _, _ => rfl
  | [], y :: b, _, _, h => by have := (h y).2 List.mem_cons_self; cases this
  | x :: a, [], _, _, h => by have := (h x).1 List.mem_cons_self; cases this
  | x :: a, y :: b, ha, hb, h => by
    obtain ⟨a1, a2⟩ := List.pairwise_cons.1 ha
    obtain ⟨b1, b2⟩ := List.pairwise_cons.1 hb
    have e : x = y := by
      rcases List.mem_cons.1 ((h x).1 List.mem_cons_self) with e | e
      · exact e
      · rcases List.mem_cons.1 ((h y).2 List.mem_cons_self) with e2 | e2
        · exact e2.symm
        · have := b1 x e; have := a1 y e2; omega
    subst e
    congr 1
    refine inc_eq a2 b2 fun z => ⟨fun hz => ?_, fun hz => ?_⟩
    · rcases List.mem_cons.1 ((h z).1 (List.mem_cons_of_mem _ hz)) with e | e
      · have := a1 z hz; omega
      · exact e
    · rcases List.mem_cons.1 ((h z).2 (List.mem_cons_of_mem _ hz)) with e | e
      · have := b1 z hz; omega
      · exact e
theorem nrs_eq {a b : List Int} (h : ∀ x, x ∈ a ↔ x ∈ b) : nrs a = nrs b := inc_eq (nrs_inc a) (nrs_inc b) fun x => by rw [nrs_mem, nrs_mem, h]
/-- The files made, of some changes. -/
def newF (l : List CHG) : List Int := (l.filter fun c => decide (c.1 = ⟨#[]⟩)).map fun c => c.2.2
theorem newF_snoc {l : List CHG} {i : Nat} {x : CHG} (h : l[i]? = some x) : newF (l.take (i + 1)) = newF (l.take i) ++ if x.1 = ⟨#[]⟩ then [x.2.2] else [] := by
  rw [take_at h, newF, newF, List.filter_append, List.map_append]
  congr 1
  by_cases e : x.1 = ⟨#[]⟩ <;> simp [e]
/-- The files that count behind a loss, by their numbers. -/
def DS.near (s : DS) : List Int := nrs (s.fx.map (·.2) ++ newF s.chs)
def vals (d : DIR) (ds : List ByteArray) : List Int := ds.reverse.map fun k => (asc k d).getD 0
theorem vals_cons {d : DIR} {ds : List ByteArray} {k : ByteArray} {x : Int} (h : asc k d = some x) : vals d (k :: ds) = vals d ds ++ [x] := by simp only [vals, List.reverse_cons, List.map_append, List.map_cons, List.map_nil, h, Option.getD_some]
theorem vals_mem {d : DIR} {ds : List ByteArray} (hn : (d.map (·.1)).Nodup) (h1 : ∀ k, k ∈ ds → k ∈ d.map (·.1)) (h2 : ∀ k, k ∈ d.map (·.1) → k ∈ ds) (x : Int) : x ∈ vals d ds ↔ x ∈ d.map (·.2) := by
  constructor
  · intro h
    obtain ⟨k, hk, rfl⟩ := List.mem_map.1 h
    obtain ⟨p, hp, rfl⟩ := List.mem_map.1 (h1 k (List.mem_reverse.1 hk))
    rw [asc_mem hn hp]
    exact List.mem_map.2 ⟨p, hp, rfl⟩
  · intro h
    obtain ⟨p, hp, rfl⟩ := List.mem_map.1 h
    exact List.mem_map.2 ⟨p.1, List.mem_reverse.2 (h2 _ (List.mem_map.2 ⟨p, hp, rfl⟩)), by rw [asc_mem hn hp]; rfl⟩
set_option maxHeartbeats 4000000 in
set_option maxRecDepth 100000 in
theorem near_c {col : Nat → Nat} {b bf bd bx bl : Nat} {A : Option Addr} {n c : Nat} {pt : List Nat} {s0 : DS} (w : World) (h : DkB col w b bf bd bx bl A n c pt s0) (hok : s0.Ok) (hsz : s0.size ≤ 200000) : Ret Tryz.prog 49 #[ptrV b] w fun r w' => ∃ A' c', r = .slice A' s0.near.length c' ∧ s0.near.length ≤ c' ∧ Mine KI 3 (fun q => w.heap.size ≤ q ∧ q < w'.heap.size) 0 0 w' (.slice A' s0.near.length c') s0.near ∧ Keep w w' := by
  have hbl := h.B.lt
  have hfl := h.F.lt
  have hdl := h.G.lt
  have hxl := h.X.lt
  have hll := h.L.lt
  have hcb := h.cb
  have hcf := h.cf
  have hcd := h.cd
  have hcx := h.cx
  have hcl := h.cl
  obtain ⟨z1, z2, z3, z4, z5, z6, z7, z8, z9, z10⟩ := h.ne
  have hlt := h.lt
  have hok1 := hok.lf
  have hok2 := hok.few
  rw [DS.size] at hsz
  have hfx := hok.fewx
  have hchl := h.M.len
  refine X.enter Tryz.func49 rfl Tryz.ntmps49 rfl ?_
  refine X.seq ?_
  refine X.region ?_
  refine X.opw X.wN rfl (X.assign rfl) ?_
  refine X.opsEnd ?_
  refine X.seq ?_
  refine X.region ?_
  refine X.opw X.wN rfl (X.assign rfl) ?_
  refine X.opsEnd ?_
  refine X.seq ?_
  refine X.seq ?_
  refine X.region ?_
  refine X.opw X.wN rfl (X.move rfl) ?_
  refine X.opw X.wN rfl (X.nilCk rfl) ?_
  refine X.opw X.wN rfl (X.fldB (j := 4) Tryz.underlying71 rfl rfl Tryz.sizeOf67 rfl) ?_
  refine X.opw X.wN rfl (X.load1B Tryz.isAgg67 h.B rfl rfl) ?_
  refine X.opE X.wN rfl (X.rangeE (enc := (fun x : ByteArray => Value.string x)) Tryz.underlying67 h.X rfl) ?_
  rintro _ w1 ⟨rfl, hI1, hk1, hz1⟩
  refine X.opsEnd ?_
  refine X.block ?_
  refine X.loopL (σ := List ByteArray × Value) (fun s => [(0, ptrV b), (3, s.2), (12, .pointer (some ⟨w.heap.size, 0, none⟩))]) (fun s w' => It (fun x : ByteArray => Value.string x) w' w.heap.size bx (mv (fun v : Int => Value.int .i64 v) s0.fx) s.1 ∧ Mine KI 3 (fun q => w.heap.size < q) 0 0 w' s.2 (vals s0.fx s.1) ∧ s.1.Nodup ∧ (∀ k, k ∈ s.1 → k ∈ s0.fx.map (·.1)) ∧ Keep w w') (fun s => s0.fx.length + 1 - s.1.length) ([], .slice none 0 0) ⟨rfl, rfl, rfl, trivial⟩ ⟨hI1, Mine.nil _ _ _ _ _ _, List.nodup_nil, fun _ h => (by simp at h), hk1⟩ ?_
  rintro ⟨ds, v⟩ e w1 ⟨hI, hMv, hnd, hin, hk⟩ hback
  dsimp only at hMv hnd hin hI ⊢
  have hk' := hk.size
  have hIl := hI.lt
  have hdl := nodup_len hnd hin
  rw [List.length_map] at hdl
  have hvl : (vals s0.fx ds).length = ds.length := by simp [vals]
  refine X.seq ?_
  refine X.region ?_
  refine X.opE X.wN rfl (X.nextE hI rfl) ?_
  rintro _ w2 (⟨rfl, hall2, rfl⟩ | ⟨p2, hp2, hpn2, rfl, hI2, hx2, hz2⟩)
  · 
    refine X.opw X.wN rfl (X.extr rfl rfl) ?_
    refine X.opsEnd ?_
    refine X.seq ?_
    refine X.condF rfl ?_
    refine X.exit rfl ?_
    refine X.seq ?_
    refine X.seq ?_
    refine X.region ?_
    refine X.opw X.wN rfl (X.move rfl) ?_
    refine X.opw X.wN rfl (X.nilCk rfl) ?_
    refine X.opw X.wN rfl (X.fldB (j := 5) Tryz.underlying71 rfl rfl Tryz.sizeOf68 rfl) ?_
    refine X.opw X.wN rfl (X.load1B Tryz.isAgg68 (h.B.keep hk) rfl rfl) ?_
    refine X.opw X.wN rfl (X.lenSl Tryz.underlying68 rfl) ?_
    refine X.opw X.wN rfl (X.move rfl) ?_
    refine X.opsEnd ?_
    refine X.block ?_
    have hall : ∀ k, k ∈ s0.fx.map (·.1) → k ∈ ds := fun k hm => by
      obtain ⟨q, hq, rfl⟩ := List.mem_map.1 hm
      exact hall2 (q.1, .int .i64 q.2) (List.mem_map.2 ⟨q, hq, rfl⟩)
    have hCh := ((h.M.rd KCh_flat).2.keep hk)
    refine X.loopL (σ := Nat × Value) (fun s => [(3, s.2), (24, .slice A n c), (25, .int .i64 (n : Int)), (26, .int .i64 (s.1 : Int))]) (fun s w' => s.1 ≤ n ∧ Mine KI 3 (fun q => w.heap.size < q) 0 0 w' s.2 (vals s0.fx ds ++ newF (s0.chs.take s.1)) ∧ Keep w w') (fun s => n - s.1) (0, v) ⟨rfl, rfl, rfl, rfl, trivial⟩ ⟨Nat.zero_le _, by have h9 := hMv; simpa [newF] using h9, hk⟩ ?_
    rintro ⟨i, v2⟩ e w4 ⟨hin2, hM2, hk2⟩ hback
    dsimp only at hin2 hM2 ⊢
    have hk2' := hk2.size
    have hCi : Sl KCh 0 w.heap.size w4 A n s0.chs := (h.M.rd KCh_flat).2.keep hk2
    have hnl : (newF (s0.chs.take i)).length ≤ i := by
      rw [newF, List.length_map]
      exact Nat.le_trans (List.length_filter_le _ _) (by rw [List.length_take]; omega)
    refine X.seq ?_
    refine X.region ?_
    refine X.opP X.wN rfl rfl (X.lss rfl rfl) (fun h27 => ?_) (fun h27 => ?_)
    · obtain ⟨x, hx⟩ := getN i hchl (by omega)
      refine X.opsEnd ?_
      refine X.seq ?_
      refine X.condT rfl ?_
      refine X.skip ?_
      refine X.seq ?_
      refine X.block ?_
      refine X.seq ?_
      refine X.region ?_
      refine X.opw X.wN rfl (X.idxS hCi Tryz.underlying68 Tryz.sizeOf90 rfl rfl ⟨by omega, by omega⟩) ?_
      refine X.opw X.wN rfl (X.loadSN Tryz.isAgg90 Tryz.sizeOf90 hCi hx rfl (fun _ h => h.1) rfl) ?_
      refine X.opE X.wN rfl (X.allocE Tryz.zeroValue90 rfl) ?_
      rintro _ w3 ⟨rfl, hB3, hk3, hz3⟩
      refine X.opE X.wN rfl (X.storeNE Tryz.sizeOf90 hB3 rfl rfl rfl rfl (fun u hu => by simp at hu; rcases hu with rfl | rfl | rfl <;> rfl)) ?_
      rintro _ w4 ⟨hB4, hx4, hz4⟩
      refine X.opsEnd ?_
      refine X.seq ?_
      refine X.region ?_
      refine X.opw X.wN rfl (X.fldB (j := 0) Tryz.underlying90 rfl rfl Tryz.sizeOf9 rfl) ?_
      refine X.opw X.wN rfl (X.load1B Tryz.isAgg9 hB4 rfl rfl) ?_
      refine X.opP X.wN rfl rfl (X.eqD rfl rfl) (fun h32 => ?_) (fun h32 => ?_)
      · refine X.opsEnd ?_
        refine X.condT rfl ?_
        refine X.region ?_
        refine X.opw X.wN rfl (X.move rfl) ?_
        refine X.opw X.wN rfl (X.fldB (j := 2) Tryz.underlying90 rfl rfl Tryz.sizeOf3 rfl) ?_
        refine X.opw X.wN rfl (X.load1B Tryz.isAgg3 hB4 rfl rfl) ?_
        refine X.opE X.wN rfl (X.litKF KI_flat (K := KI) (xs := [Operand.tmp 35]) (vs := [.int .i64 x.2.2]) (ys := [x.2.2]) Tryz.underlying95 Tryz.sizeOf3 Tryz.zeroValue3 rfl rfl rfl rfl rfl (repsI1 (by have := hok.chs x (List.mem_of_getElem? hx) h32; omega))) ?_
        rintro _ w5 ⟨rfl, hs5, hB5, hk5, hz5⟩
        refine X.opE X.wN rfl (X.appE (K := KI) (S := fun q => w.heap.size < q) KI_flat Tryz.underlying95 EId rfl rfl (hM2.keep ((hk3.step hx4 (by intros; (try simp only [] at *); omega)).trans hk5)) hs5 (by (try simp only [List.length_append, List.length_cons, List.length_nil, List.length_take, List.length_drop, List.length_map, List.length_range]); omega) (by intros; (try simp only [] at *); omega)) ?_
        rintro v6 w6 ⟨hM6, hx6⟩
        have hx6' := hx6.size
        refine X.opw X.wN rfl (X.assign rfl) ?_
        refine X.opsEnd ?_
        refine X.inBlock ?_
        refine X.region ?_
        refine X.opw X.wN rfl (X.add rfl rfl (X.w_i64 (by omega))) ?_
        refine X.opw X.wN rfl (X.move (v := .int .i64 _) rfl) ?_
        refine X.opsEnd ?_
        refine hback (i + 1, _) _ _ ⟨rfl, rfl, rfl, rfl, trivial⟩ ⟨by (dsimp only); omega, by have h9 := hM6; (dsimp only); rw [newF_snoc hx, if_pos h32, ← List.append_assoc]; exact h9, ((((hk2.trans hk3).step hx4 (by intros; (try simp only [] at *); omega)).trans hk5).step hx6 (by intros; (try simp only [] at *); omega))⟩ (by (dsimp only); omega)
      · have h32 : ¬ x.1 = ⟨#[]⟩ := h32
        refine X.opsEnd ?_
        refine X.condF rfl ?_
        refine X.skip ?_
        refine X.inBlock ?_
        refine X.region ?_
        refine X.opw X.wN rfl (X.add rfl rfl (X.w_i64 (by omega))) ?_
        refine X.opw X.wN rfl (X.move (v := .int .i64 _) rfl) ?_
        refine X.opsEnd ?_
        refine hback (i + 1, v2) _ _ ⟨rfl, rfl, rfl, rfl, trivial⟩ ⟨by (dsimp only); omega, by have h9 := (hM2.keep (hk3.step hx4 (by intros; (try simp only [] at *); omega))); (dsimp only); rw [newF_snoc hx, if_neg h32, List.append_nil]; exact h9, ((hk2.trans hk3).step hx4 (by intros; (try simp only [] at *); omega))⟩ (by (dsimp only); omega)
    · refine X.opsEnd ?_
      refine X.seq ?_
      refine X.condF rfl ?_
      refine X.exit rfl ?_
      refine X.seq ?_
      refine X.region ?_
      refine X.opw X.wN rfl (X.move rfl) ?_
      have q8 := hM2.slF KI_flat 0 (fun _ _ => Nat.zero_le _)
      obtain ⟨A8, c8, rfl, hc8, hs8⟩ := q8
      refine X.opE X.wN rfl (X.callNE (sortInt_c hM2 (by (try simp only [List.length_append]); omega)) Tryz.call70 rfl rfl) ?_
      rintro _ w7 ⟨rfl, hMs, hx7⟩
      have hx7' := hx7.size
      refine X.opsEnd ?_
      refine X.seq ?_
      refine X.region ?_
      refine X.opw X.wN rfl (X.move rfl) ?_
      refine X.opE X.wN rfl (X.callNE (compInt_c hMs) Tryz.call71 rfl rfl) ?_
      rintro _ w9 ⟨rfl, hcc, hMq, hx9⟩
      have hx9' := hx9.size
      refine X.opw X.wN rfl (X.assign rfl) ?_
      refine X.opsEnd ?_
      refine X.ret1 Tryz.func49 Tryz.results49 rfl ?_
      have e1 : Lib.compact ((vals s0.fx ds ++ newF (s0.chs.take i)).mergeSort fun x y => decide (x ≤ y)) = s0.near := by
        have h8 : s0.chs.take i = s0.chs := List.take_of_length_le (by omega)
        rw [h8]
        exact nrs_eq fun x => by rw [List.mem_append, List.mem_append, vals_mem hok.ndx hin hall]
      rw [e1] at hMq hcc ⊢
      exact ⟨_, _, rfl, hcc, hMq.mono (fun q hq h => ⟨by (try simp only [] at h); omega, hq⟩), ((hk2.step hx7 (by intros; (try simp only [] at *); omega)).step hx9 (by intros; (try simp only [] at *); omega))⟩
  · have hx2' := hx2.size
    obtain ⟨q, hq, rfl⟩ : ∃ q : ByteArray × Int, q ∈ s0.fx ∧ p2 = (q.1, Value.int .i64 q.2) := by
      obtain ⟨q, hq, e⟩ := List.mem_map.1 hp2
      exact ⟨q, hq, e.symm⟩
    obtain ⟨hq0, hq1, _⟩ := hok.fx q hq
    have hasc : asc q.1 s0.fx = some q.2 := asc_mem hok.ndx hq
    dsimp only at hpn2 hI2
    refine X.opw X.wN rfl (X.extr rfl rfl) ?_
    refine X.opsEnd ?_
    refine X.seq ?_
    refine X.condT rfl ?_
    refine X.skip ?_
    refine X.block ?_
    refine X.seq ?_
    refine X.region ?_
    refine X.opw X.wN rfl (X.entryE hI2 hp2 rfl) ?_
    refine X.opw X.wN rfl (X.extr rfl rfl) ?_
    refine X.opw X.wN rfl (X.assign (v := .int .i64 _) rfl) ?_
    refine X.opsEnd ?_
    refine X.region ?_
    refine X.opw X.wN rfl (X.move rfl) ?_
    refine X.opw X.wN rfl (X.move (v := .int .i64 _) rfl) ?_
    refine X.opE X.wN rfl (X.litKF KI_flat (K := KI) (xs := [Operand.tmp 18]) (vs := [.int .i64 q.2]) (ys := [q.2]) Tryz.underlying95 Tryz.sizeOf3 Tryz.zeroValue3 rfl rfl rfl rfl rfl (repsI1 ⟨by omega, by omega⟩)) ?_
    rintro _ w10 ⟨rfl, hs10, hB10, hk10, hz10⟩
    refine X.opE X.wN rfl (X.appE (K := KI) (S := fun q => w.heap.size < q) KI_flat Tryz.underlying95 EId rfl rfl ((hMv.ext hx2 (by first | (intros; (try simp only [] at *); omega) | (intro hh; (try simp only [] at hh); omega) | (intro q h1 h2; (try simp only [] at h1 h2); have := hlt q (by omega); omega) | (intro hh; have hh : _ = _ := hh; subst hh; omega) | (intro q h1 h2; have h2 : q = _ := h2; subst h2; (try simp only [] at h1); omega) | (intro q h1 h2; (try simp only [] at h1 h2); omega) | (intro q h1 h2; have h2 : q = _ := h2; have := hlt q (by (try simp only [] at h1); omega); omega) | (intro q h1 h2; (try simp only [] at h1 h2); rcases h2 with h2 | h2 | h2 <;> first | omega | (subst h2; omega)) | (intro q h1 h2; (try simp only [] at h1 h2); rcases h2 with h2 | h2 | h2 | h2 <;> first | omega | (subst h2; omega))) (by first | (intros; (try simp only [] at *); omega) | (intro hh; (try simp only [] at hh); omega) | (intro q h1 h2; (try simp only [] at h1 h2); have := hlt q (by omega); omega) | (intro hh; have hh : _ = _ := hh; subst hh; omega) | (intro q h1 h2; have h2 : q = _ := h2; subst h2; (try simp only [] at h1); omega) | (intro q h1 h2; (try simp only [] at h1 h2); omega) | (intro q h1 h2; have h2 : q = _ := h2; have := hlt q (by (try simp only [] at h1); omega); omega) | (intro q h1 h2; (try simp only [] at h1 h2); rcases h2 with h2 | h2 | h2 <;> first | omega | (subst h2; omega)) | (intro q h1 h2; (try simp only [] at h1 h2); rcases h2 with h2 | h2 | h2 | h2 <;> first | omega | (subst h2; omega)))).keep hk10) hs10 (by (try simp only [List.length_append, List.length_cons, List.length_nil, List.length_take, List.length_drop, List.length_map, List.length_range]); omega) (by intros; (try simp only [] at *); omega)) ?_
    rintro v11 w11 ⟨hM11, hx11⟩
    have hx11' := hx11.size
    refine X.opw X.wN rfl (X.assign rfl) ?_
    refine X.opsEnd ?_
    refine X.inBlock ?_
    refine hback (q.1 :: ds, _) _ _ ⟨rfl, rfl, rfl, trivial⟩ ⟨((hI2.keep hk10).ext hx11 (by first | (intros; (try simp only [] at *); omega) | (intro hh; (try simp only [] at hh); omega) | (intro q h1 h2; (try simp only [] at h1 h2); have := hlt q (by omega); omega) | (intro hh; have hh : _ = _ := hh; subst hh; omega) | (intro q h1 h2; have h2 : q = _ := h2; subst h2; (try simp only [] at h1); omega) | (intro q h1 h2; (try simp only [] at h1 h2); omega) | (intro q h1 h2; have h2 : q = _ := h2; have := hlt q (by (try simp only [] at h1); omega); omega) | (intro q h1 h2; (try simp only [] at h1 h2); rcases h2 with h2 | h2 | h2 <;> first | omega | (subst h2; omega)) | (intro q h1 h2; (try simp only [] at h1 h2); rcases h2 with h2 | h2 | h2 | h2 <;> first | omega | (subst h2; omega))) (by first | (intros; (try simp only [] at *); omega) | (intro hh; (try simp only [] at hh); omega) | (intro q h1 h2; (try simp only [] at h1 h2); have := hlt q (by omega); omega) | (intro hh; have hh : _ = _ := hh; subst hh; omega) | (intro q h1 h2; have h2 : q = _ := h2; subst h2; (try simp only [] at h1); omega) | (intro q h1 h2; (try simp only [] at h1 h2); omega) | (intro q h1 h2; have h2 : q = _ := h2; have := hlt q (by (try simp only [] at h1); omega); omega) | (intro q h1 h2; (try simp only [] at h1 h2); rcases h2 with h2 | h2 | h2 <;> first | omega | (subst h2; omega)) | (intro q h1 h2; (try simp only [] at h1 h2); rcases h2 with h2 | h2 | h2 | h2 <;> first | omega | (subst h2; omega)))), (by rw [vals_cons hasc]; exact hM11), List.nodup_cons.2 ⟨hpn2, hnd⟩, (fun a ha => (List.mem_cons.1 ha).elim (fun e => by rw [e]; exact List.mem_map.2 ⟨q, hq, rfl⟩) (hin a)), (((hk.step hx2 (by intros; (try simp only [] at *); omega)).trans hk10).step hx11 (by intros; (try simp only [] at *); omega))⟩ (by have := nodup_len (ks := s0.fx.map (·.1)) (List.nodup_cons.2 ⟨hpn2, hnd⟩) (fun a ha => (List.mem_cons.1 ha).elim (fun e => by rw [e]; exact List.mem_map.2 ⟨q, hq, rfl⟩) (hin a)); simp only [List.length_map, List.length_cons] at this ⊢; omega)
end Go.Proofs.YtcdebnppbnmmgaaGreat

namespace Go.Proofs.YtcdebnppbnmmgaaGreat
open Go Go.Proofs.YtcdebnppbnmmgaaGreat.X
set_option linter.unusedVariables false
set_option linter.unusedSimpArgs false
def spotL (ls : LS) (k : Int) (n : Nat) : List Int := ((List.range n).filter fun i : Nat => (asc (k, (i : Int)) ls).getD false).map fun i : Nat => (i : Int)
theorem spotL_len (ls : LS) (k : Int) (n : Nat) : (spotL ls k n).length ≤ n := by
  rw [spotL, List.length_map]
  exact Nat.le_trans (List.length_filter_le _ _) (by simp)
theorem spotL_succ (ls : LS) (k : Int) (n : Nat) : spotL ls k (n + 1) = spotL ls k n ++ if (asc (k, (n : Int)) ls).getD false = true then [(n : Int)] else [] := by
  rw [spotL, spotL, List.range_succ, List.filter_append, List.map_append]
  congr 1
  by_cases h : (asc (k, (n : Int)) ls).getD false = true <;> simp [h]
/-- A file's loose sectors. -/
def DS.spots (k : Int) (s : DS) : List Int := spotL s.ls k (secs (flen s.fs k))
/-- How many changes, sectors, sizes are loose. -/
def looseL (s : DS) : List Int → Nat × Nat
  | [] => (0, 0)
  | k :: l => ((s.spots k).length + (looseL s l).1, (if (fat s.fs k).1.length ≠ (fat s.fs k).2.length then 1 else 0) + (looseL s l).2)
def DS.loose (s : DS) : Nat × Nat × Nat := (s.chs.length, looseL s s.near)
theorem looseL_app (s : DS) : ∀ (a b : List Int), looseL s (a ++ b) = ((looseL s a).1 + (looseL s b).1, (looseL s a).2 + (looseL s b).2)
  | [], b => by simp [looseL]
  | k :: a, b => by rw [List.cons_append, looseL, looseL_app s a b, looseL]; simp only [Nat.add_assoc]
theorem looseL_le {s : DS} (h : s.Ok) : ∀ l : List Int, (looseL s l).1 ≤ l.length * 16384 ∧ (looseL s l).2 ≤ l.length
  | [] => by simp [looseL]
  | k :: l => by
    have := looseL_le h l
    have h1 := spotL_len s.ls k (secs (flen s.fs k))
    have h2 := h.flen k
    have h3 : (s.spots k).length ≤ 16384 := by rw [DS.spots]; rw [secs] at h1; rw [secs]; omega
    simp only [looseL, List.length_cons]
    refine ⟨by omega, ?_⟩
    split <;> omega
theorem near_ok {s : DS} (h : s.Ok) : ∀ k, k ∈ s.near → 0 ≤ k ∧ k < s.fs.length := by
  intro k hk
  rcases List.mem_append.1 (nrs_mem.1 hk) with hk | hk
  · obtain ⟨p, hp, rfl⟩ := List.mem_map.1 hk
    have := h.fx p hp; omega
  · obtain ⟨c, hc, rfl⟩ := List.mem_map.1 hk
    obtain ⟨h1, h2⟩ := List.mem_filter.1 hc
    exact h.chs c h1 (by simpa using h2)
theorem inc_len {a b : Int} : ∀ {l : List Int}, l.Pairwise (· < ·) → (∀ x, x ∈ l → a ≤ x ∧ x < b) → a ≤ b → (l.length : Int) ≤ b - a
  | [], _, _, h => by simp; omega
  | x :: l, hp, hm, _ => by
    obtain ⟨h1, h2⟩ := List.pairwise_cons.1 hp
    have h3 := hm x List.mem_cons_self
    have := inc_len (a := x + 1) (b := b) h2 (fun y hy => ⟨by have := h1 y hy; omega, (hm y (List.mem_cons_of_mem _ hy)).2⟩) (by omega)
    rw [List.length_cons]; omega
theorem near_len {s : DS} (h : s.Ok) : s.near.length ≤ s.fs.length := by
  have := inc_len (nrs_inc (s.fx.map (·.2) ++ newF s.chs)) (fun x hx => near_ok h x hx) (by omega)
  have e : (nrs (s.fx.map (·.2) ++ newF s.chs)).length = s.near.length := rfl
  omega
set_option maxHeartbeats 4000000 in
set_option maxRecDepth 100000 in
theorem spots_c {col : Nat → Nat} {b bf bd bx bl : Nat} {A : Option Addr} {n c : Nat} {pt : List Nat} {s0 : DS} (k : Int) (w : World) (h : DkB col w b bf bd bx bl A n c pt s0) (hok : s0.Ok) (hk0 : 0 ≤ k) (hk1 : k < s0.fs.length) : Ret Tryz.prog 50 #[ptrV b, .int .i64 k] w fun r w' => ∃ A' c', r = .slice A' (s0.spots k).length c' ∧ (s0.spots k).length ≤ c' ∧ Mine KI 3 (fun q => w.heap.size ≤ q ∧ q < w'.heap.size) 0 0 w' (.slice A' (s0.spots k).length c') (s0.spots k) ∧ Keep w w' := by
  have hbl := h.B.lt
  have hfl := h.F.lt
  have hdl := h.G.lt
  have hxl := h.X.lt
  have hll := h.L.lt
  have hcb := h.cb
  have hcf := h.cf
  have hcd := h.cd
  have hcx := h.cx
  have hcl := h.cl
  obtain ⟨z1, z2, z3, z4, z5, z6, z7, z8, z9, z10⟩ := h.ne
  have hlt := h.lt
  have hok1 := hok.lf
  have hok2 := hok.few
  obtain ⟨pf, f, A1, n1, c1, A2, n2, c2, hfb, hpf, hff, hn1, hn2, hfl1, hpc, hBf, hM1, hM2⟩ := h.at_ hk0 hk1
  have hlf := hok.len hff
  have hpl2 := hBf.lt
  refine X.enter Tryz.func50 rfl Tryz.ntmps50 rfl ?_
  refine X.seq ?_
  refine X.region ?_
  refine X.opw X.wN rfl (X.assign rfl) ?_
  refine X.opsEnd ?_
  refine X.seq ?_
  refine X.region ?_
  refine X.opw X.wN rfl (X.assign rfl) ?_
  refine X.opsEnd ?_
  refine X.seq ?_
  refine X.seq ?_
  refine X.region ?_
  refine X.opw X.wN rfl (X.move rfl) ?_
  refine X.opw X.wN rfl (X.nilCk rfl) ?_
  refine X.opw X.wN rfl (X.fldB (j := 1) Tryz.underlying71 rfl rfl Tryz.sizeOf66 rfl) ?_
  refine X.opw X.wN rfl (X.load1B Tryz.isAgg66 h.B rfl rfl) ?_
  refine X.opw X.wN rfl (X.move (v := .int .i64 _) rfl) ?_
  refine X.opw X.wN rfl (X.lookupAt Tryz.underlying66 (keyInt Tryz.underlying3) Tryz.zeroValue85 (h.F) hfb rfl rfl) ?_
  refine X.opw X.wN rfl (X.nilCk rfl) ?_
  refine X.opw X.wN rfl (X.fldB (j := 0) Tryz.underlying87 rfl rfl Tryz.sizeOf31 rfl) ?_
  refine X.opw X.wN rfl (X.load1B Tryz.isAgg31 hBf rfl rfl) ?_
  refine X.opw X.wN rfl (X.lenSl Tryz.underlying31 rfl) ?_
  refine X.opE X.wN rfl (X.callE (sectors_c _ _ (by omega)) Tryz.call48 rfl rfl) ?_
  rintro _ w1 ⟨rfl, hk1⟩
  have hk1' := hk1.size
  refine X.opw X.wN rfl (X.move rfl) ?_
  refine X.opsEnd ?_
  refine X.block ?_
  refine X.loopL (σ := Nat × Value) (fun s => [(0, ptrV b), (1, .int .i64 k), (5, s.2), (17, .int .i64 (((n1 + 63) / 64 : Nat) : Int)), (18, .int .i64 (s.1 : Int))]) (fun s w' => s.1 ≤ (n1 + 63) / 64 ∧ Mine KI 3 (fun q => w.heap.size ≤ q) 0 0 w' s.2 (spotL s0.ls k s.1) ∧ Keep w w') (fun s => (n1 + 63) / 64 - s.1) (0, .slice none 0 0) ⟨rfl, rfl, rfl, rfl, rfl, trivial⟩ ⟨Nat.zero_le _, Mine.nil _ _ _ _ _ _, hk1⟩ ?_
  rintro ⟨i, v⟩ e w4 ⟨hin, hMv, hk⟩ hback
  dsimp only at hin hMv ⊢
  have hk' := hk.size
  have hsl := spotL_len s0.ls k i
  refine X.seq ?_
  refine X.region ?_
  refine X.opP X.wN rfl rfl (X.lss rfl rfl) (fun h19 => ?_) (fun h19 => ?_)
  · refine X.opsEnd ?_
    refine X.seq ?_
    refine X.condT rfl ?_
    refine X.skip ?_
    refine X.seq ?_
    refine X.block ?_
    refine X.seq ?_
    refine X.region ?_
    refine X.opw X.wN rfl (X.move (v := .int .i64 _) rfl) ?_
    refine X.opw X.wN rfl (X.assign (v := .int .i64 _) rfl) ?_
    refine X.opsEnd ?_
    refine X.seq ?_
    refine X.region ?_
    refine X.opw X.wN rfl (X.move rfl) ?_
    refine X.opw X.wN rfl (X.nilCk rfl) ?_
    refine X.opw X.wN rfl (X.fldB (j := 6) Tryz.underlying71 rfl rfl Tryz.sizeOf69 rfl) ?_
    refine X.opw X.wN rfl (X.load1B Tryz.isAgg69 (h.B.keep hk) rfl rfl) ?_
    refine X.opw X.wN rfl (X.move (v := .int .i64 _) rfl) ?_
    refine X.opw X.wN rfl (X.move (v := .int .i64 _) rfl) ?_
    refine X.opw X.wN rfl (X.buildB (vs := [(0, .int .i64 k), (1, .int .i64 (i : Int))]) (cs := #[.int .i64 k, .int .i64 (i : Int)]) rfl (by kernel_rfl)) ?_
    refine X.opw X.wN rfl (X.lookupV (enc := fun x : Int × Int => encPl x) (venc := fun v : Bool => Value.bool v) (z := false) (a := (k, (i : Int))) Tryz.underlying69 keyPl Tryz.zeroValue4 (h.L.keep hk) rfl rfl) ?_
    refine X.opsEnd ?_
    refine X.condB rfl (fun hc => ?_) (fun hc => ?_)
    · refine X.region ?_
      refine X.opw X.wN rfl (X.move rfl) ?_
      refine X.opw X.wN rfl (X.move (v := .int .i64 _) rfl) ?_
      refine X.opE X.wN rfl (X.litKF KI_flat (K := KI) (xs := [Operand.tmp 30]) (vs := [.int .i64 (i : Int)]) (ys := [(i : Int)]) Tryz.underlying95 Tryz.sizeOf3 Tryz.zeroValue3 rfl rfl rfl rfl rfl (repsI1 ⟨by omega, by omega⟩)) ?_
      rintro _ w2 ⟨rfl, hs2, hB2, hk2, hz2⟩
      refine X.opE X.wN rfl (X.appE (K := KI) (S := fun q => w.heap.size ≤ q) KI_flat Tryz.underlying95 EId rfl rfl (hMv.keep hk2) hs2 (by (try simp only [List.length_append, List.length_cons, List.length_nil, List.length_take, List.length_drop, List.length_map, List.length_range]); omega) (by intros; (try simp only [] at *); omega)) ?_
      rintro v3 w3 ⟨hM3, hx3⟩
      have hx3' := hx3.size
      refine X.opw X.wN rfl (X.assign rfl) ?_
      refine X.opsEnd ?_
      refine X.inBlock ?_
      refine X.region ?_
      refine X.opw X.wN rfl (X.add (c := ((i + 1 : Nat) : Int)) rfl rfl (by rw [X.w_i64 (by omega)]; omega)) ?_
      refine X.opw X.wN rfl (X.move (v := .int .i64 _) rfl) ?_
      refine X.opsEnd ?_
      refine hback (i + 1, _) _ _ ⟨rfl, rfl, rfl, rfl, rfl, trivial⟩ ⟨by (dsimp only); omega, by have h9 := hM3; (dsimp only); rw [spotL_succ, if_pos hc]; exact h9, ((hk.trans hk2).step hx3 (by intros; (try simp only [] at *); omega))⟩ (by (dsimp only); omega)
    · refine X.skip ?_
      refine X.inBlock ?_
      refine X.region ?_
      refine X.opw X.wN rfl (X.add (c := ((i + 1 : Nat) : Int)) rfl rfl (by rw [X.w_i64 (by omega)]; omega)) ?_
      refine X.opw X.wN rfl (X.move (v := .int .i64 _) rfl) ?_
      refine X.opsEnd ?_
      refine hback (i + 1, v) _ _ ⟨rfl, rfl, rfl, rfl, rfl, trivial⟩ ⟨by (dsimp only); omega, by have h9 := hMv; (dsimp only); rw [spotL_succ, if_neg (by rw [hc]; decide), List.append_nil]; exact h9, hk⟩ (by (dsimp only); omega)
  · refine X.opsEnd ?_
    refine X.seq ?_
    refine X.condF rfl ?_
    refine X.exit rfl ?_
    refine X.seq ?_
    refine X.region ?_
    refine X.opw X.wN rfl (X.move rfl) ?_
    refine X.opw X.wN rfl (X.assign rfl) ?_
    refine X.opsEnd ?_
    refine X.ret1 Tryz.func50 Tryz.results50 rfl ?_
    have e1 : spotL s0.ls k i = s0.spots k := by rw [DS.spots, hfl1, secs, show i = (n1 + 63) / 64 by omega]
    rw [e1] at hMv
    obtain ⟨A', c', rfl, hc', _⟩ := hMv.slice
    exact ⟨_, _, rfl, hc', hMv.mono (fun q hq h => ⟨by (try simp only [] at h); omega, hq⟩), hk⟩
end Go.Proofs.YtcdebnppbnmmgaaGreat

namespace Go.Proofs.YtcdebnppbnmmgaaGreat
open Go Go.Proofs.YtcdebnppbnmmgaaGreat.X
set_option linter.unusedVariables false
set_option linter.unusedSimpArgs false
set_option maxHeartbeats 4000000 in
set_option maxRecDepth 100000 in
theorem Loose_c {col : Nat → Nat} {b bf bd bx bl : Nat} {A : Option Addr} {n c : Nat} {pt : List Nat} {s0 : DS} (w : World) (h : DkB col w b bf bd bx bl A n c pt s0) (hok : s0.Ok) (hsz : s0.size ≤ 200000) : Ret Tryz.prog 14 #[ptrV b] w fun r w' => r = .tuple #[.int .i64 (s0.loose.1 : Int), .int .i64 (s0.loose.2.1 : Int), .int .i64 (s0.loose.2.2 : Int)] ∧ Keep w w' := by
  have hbl := h.B.lt
  have hfl := h.F.lt
  have hdl := h.G.lt
  have hxl := h.X.lt
  have hll := h.L.lt
  have hcb := h.cb
  have hcf := h.cf
  have hcd := h.cd
  have hcx := h.cx
  have hcl := h.cl
  obtain ⟨z1, z2, z3, z4, z5, z6, z7, z8, z9, z10⟩ := h.ne
  have hlt := h.lt
  have hok1 := hok.lf
  have hok2 := hok.few
  have hsz2 := hsz
  rw [DS.size] at hsz2
  have hchl := h.M.len
  refine X.enter Tryz.func14 rfl Tryz.ntmps14 rfl ?_
  refine X.seq ?_
  refine X.region ?_
  refine X.opw X.wN rfl (X.assign rfl) ?_
  refine X.opw X.wN rfl (X.assign rfl) ?_
  refine X.opw X.wN rfl (X.assign rfl) ?_
  refine X.opsEnd ?_
  refine X.seq ?_
  refine X.seq ?_
  refine X.region ?_
  refine X.opw X.wN rfl (X.move rfl) ?_
  refine X.opE X.wN rfl (X.callE (is_c _ h.B) Tryz.call32 rfl rfl) ?_
  rintro _ w1 ⟨rfl, hk1⟩
  have hk1' := hk1.size
  refine X.opw X.wN rfl (X.not_ rfl) ?_
  refine X.opsEnd ?_
  refine X.condF rfl ?_
  refine X.skip ?_
  refine X.seq ?_
  refine X.region ?_
  refine X.opw X.wN rfl (X.assign rfl) ?_
  refine X.opw X.wN rfl (X.assign rfl) ?_
  refine X.opsEnd ?_
  refine X.seq ?_
  refine X.seq ?_
  refine X.region ?_
  refine X.opw X.wN rfl (X.move rfl) ?_
  refine X.opE X.wN rfl (X.callE (near_c _ (h.keep hk1) hok hsz) Tryz.call49 rfl rfl) ?_
  rintro _ w2 ⟨An, cn, rfl, hcn, hMn, hk2⟩
  have hk2' := hk2.size
  refine X.opw X.wN rfl (X.lenSl Tryz.underlying95 rfl) ?_
  refine X.opw X.wN rfl (X.move rfl) ?_
  refine X.opsEnd ?_
  refine X.block ?_
  have gS := ((hMn.rd KI_flat).2)
  have hnl : s0.near.length = s0.near.length := rfl
  have hnn := near_len hok
  refine X.loopL (σ := Nat × Int × Int) (fun s => [(0, ptrV b), (5, .int .i64 s.2.1), (6, .int .i64 s.2.2), (14, .slice An s0.near.length cn), (15, .int .i64 (s0.near.length : Int)), (16, .int .i64 (s.1 : Int))]) (fun s w' => s.1 ≤ s0.near.length ∧ s.2.1 = ((looseL s0 (s0.near.take s.1)).1 : Int) ∧ s.2.2 = ((looseL s0 (s0.near.take s.1)).2 : Int) ∧ Sl KI 0 w2.heap.size w' An s0.near.length s0.near ∧ Keep w w') (fun s => s0.near.length - s.1) (0, 0, 0) ⟨rfl, rfl, rfl, rfl, rfl, rfl, trivial⟩ ⟨Nat.zero_le _, rfl, rfl, gS, (hk1.trans hk2)⟩ ?_
  rintro ⟨i, a, z⟩ e w4 ⟨hin, ha, hz, hSn, hk⟩ hback
  dsimp only at hin ha hz ⊢
  have hk' := hk.size
  have hll := looseL_le hok (s0.near.take i)
  have htl : (s0.near.take i).length = i := by rw [List.length_take]; omega
  rw [htl] at hll
  refine X.seq ?_
  refine X.region ?_
  refine X.opP X.wN rfl rfl (X.lss rfl rfl) (fun h17 => ?_) (fun h17 => ?_)
  · obtain ⟨k, hx⟩ := getN i hnl (by omega)
    obtain ⟨hk0, hk1⟩ := near_ok hok k (List.mem_of_getElem? hx)
    obtain ⟨pf, f, A1, n1, c1, A2, n2, c2, hfb, hpf, hff, hn1, hn2, hfl1, hpc, hBf, hM1, hM2⟩ := h.at_ hk0 hk1
    have hlf := hok.len hff
    have hpl2 := hBf.lt
    have hfat := fat_at hff
    have hsk : (s0.spots k).length ≤ 16384 := by
      have h1 := spotL_len s0.ls k (secs (flen s0.fs k))
      have h2 := hok.flen k
      rw [DS.spots]; rw [secs] at h1; rw [secs]; omega
    have hstep : looseL s0 (s0.near.take (i + 1)) = ((looseL s0 (s0.near.take i)).1 + (s0.spots k).length, (looseL s0 (s0.near.take i)).2 + if n1 ≠ n2 then 1 else 0) := by
      rw [take_at hx, looseL_app, looseL, looseL, hfat, hn1, hn2]; simp
    refine X.opsEnd ?_
    refine X.seq ?_
    refine X.condT rfl ?_
    refine X.skip ?_
    refine X.seq ?_
    refine X.block ?_
    refine X.seq ?_
    refine X.region ?_
    refine X.opw X.wN rfl (X.idxS hSn Tryz.underlying95 Tryz.sizeOf3 rfl rfl ⟨by omega, by omega⟩) ?_
    refine X.opw X.wN rfl (X.loadS Tryz.isAgg3 hSn hx rfl (fun _ h => by rw [h.1]; rfl)) ?_
    refine X.opw X.wN rfl (X.assign (v := .int .i64 _) rfl) ?_
    refine X.opsEnd ?_
    refine X.seq ?_
    refine X.region ?_
    refine X.opw X.wN rfl (X.move (v := .int .i64 _) rfl) ?_
    refine X.opw X.wN rfl (X.move rfl) ?_
    refine X.opw X.wN rfl (X.move (v := .int .i64 _) rfl) ?_
    refine X.opE X.wN rfl (X.callE (spots_c k _ (h.keep hk) hok hk0 hk1) Tryz.call50 rfl rfl) ?_
    rintro _ w3 ⟨As, cs, rfl, hcs, hMs, hk3⟩
    have hk3' := hk3.size
    refine X.opw X.wN rfl (X.lenSl Tryz.underlying95 rfl) ?_
    refine X.opw X.wN rfl (X.add rfl rfl (X.w_i64 (by omega))) ?_
    refine X.opw X.wN rfl (X.assign (v := .int .i64 _) rfl) ?_
    refine X.opsEnd ?_
    refine X.seq ?_
    refine X.region ?_
    refine X.opw X.wN rfl (X.move rfl) ?_
    refine X.opw X.wN rfl (X.nilCk rfl) ?_
    refine X.opw X.wN rfl (X.fldB (j := 1) Tryz.underlying71 rfl rfl Tryz.sizeOf66 rfl) ?_
    refine X.opw X.wN rfl (X.load1B Tryz.isAgg66 (h.B.keep (hk.trans hk3)) rfl rfl) ?_
    refine X.opw X.wN rfl (X.move (v := .int .i64 _) rfl) ?_
    refine X.opw X.wN rfl (X.lookupAt Tryz.underlying66 (keyInt Tryz.underlying3) Tryz.zeroValue85 (((h.F.keep hk).keep hk3)) hfb rfl rfl) ?_
    refine X.opw X.wN rfl (X.assign rfl) ?_
    refine X.opsEnd ?_
    refine X.seq ?_
    refine X.regionD (fun k => w.heap.size ≤ k) 11 (by kernel_rfl) (by kernel_rfl) (fun w4 hk4 hz4 => ?_)
    refine X.dTake 0 rfl (by kernel_rfl) (by kernel_rfl) (by kernel_rfl) (X.dwN rfl) (fun w' hk' => X.move rfl) ?_
    refine X.dTake 1 rfl (by kernel_rfl) (by kernel_rfl) (by kernel_rfl) (X.dwN rfl) (fun w' hk' => X.nilCk rfl) ?_
    refine X.dTake 2 rfl (by kernel_rfl) (by kernel_rfl) (by kernel_rfl) (X.dwN rfl) (fun w' hk' => X.fldB (j := 0) Tryz.underlying87 rfl rfl Tryz.sizeOf31 rfl) ?_
    refine X.dTake 3 rfl (by kernel_rfl) (by kernel_rfl) (by kernel_rfl) (X.dwN rfl) (fun w' hk' => X.load1B Tryz.isAgg31 (hBf.keep (((hk.trans hk3).trans hk4).step hk' (by intros; (try simp only [] at *); omega))) rfl rfl) ?_
    refine X.dTake 4 rfl (by kernel_rfl) (by kernel_rfl) (by kernel_rfl) (X.dwN rfl) (fun w' hk' => X.lenSl Tryz.underlying31 rfl) ?_
    refine X.dTake 5 rfl (by kernel_rfl) (by kernel_rfl) (by kernel_rfl) (X.dwN rfl) (fun w' hk' => X.move rfl) ?_
    refine X.dTake 6 rfl (by kernel_rfl) (by kernel_rfl) (by kernel_rfl) (X.dwN rfl) (fun w' hk' => X.nilCk rfl) ?_
    refine X.dTake 7 rfl (by kernel_rfl) (by kernel_rfl) (by kernel_rfl) (X.dwN rfl) (fun w' hk' => X.fldB (j := 1) Tryz.underlying87 rfl rfl Tryz.sizeOf31 rfl) ?_
    refine X.dTake 8 rfl (by kernel_rfl) (by kernel_rfl) (by kernel_rfl) (X.dwN rfl) (fun w' hk' => X.load1B Tryz.isAgg31 (hBf.keep (((hk.trans hk3).trans hk4).step hk' (by intros; (try simp only [] at *); omega))) rfl rfl) ?_
    refine X.dTake 9 rfl (by kernel_rfl) (by kernel_rfl) (by kernel_rfl) (X.dwN rfl) (fun w' hk' => X.lenSl Tryz.underlying31 rfl) ?_
    refine X.dTake 10 rfl (by kernel_rfl) (by kernel_rfl) (by kernel_rfl) (X.dwN rfl) (fun w' hk' => X.neI rfl rfl) ?_
    refine X.dEnd (by kernel_rfl) ?_
    refine X.condB rfl (fun hc => ?_) (fun hc => ?_)
    · have hc : n1 ≠ n2 := by have := of_decide_eq_true hc; omega
      refine X.region ?_
      refine X.opw X.wN rfl (X.move (v := .int .i64 _) rfl) ?_
      refine X.opw X.wN rfl (X.add rfl rfl (X.w_i64 (by omega))) ?_
      refine X.opw X.wN rfl (X.assign (v := .int .i64 _) rfl) ?_
      refine X.opsEnd ?_
      refine X.inBlock ?_
      refine X.region ?_
      refine X.opw X.wN rfl (X.add (c := ((i + 1 : Nat) : Int)) rfl rfl (by rw [X.w_i64 (by omega)]; omega)) ?_
      refine X.opw X.wN rfl (X.move (v := .int .i64 _) rfl) ?_
      refine X.opsEnd ?_
      refine hback (i + 1, _, _) _ _ ⟨rfl, rfl, rfl, rfl, rfl, rfl, trivial⟩ ⟨by (dsimp only); omega, by (dsimp only); rw [hstep]; (dsimp only); omega, by (dsimp only); rw [hstep, if_pos hc]; (dsimp only); omega, (hSn.keep (hk3.trans hk4)), ((hk.trans hk3).trans hk4)⟩ (by (dsimp only); omega)
    · have hc : ¬ n1 ≠ n2 := by have := of_decide_eq_false hc; omega
      refine X.skip ?_
      refine X.inBlock ?_
      refine X.region ?_
      refine X.opw X.wN rfl (X.add (c := ((i + 1 : Nat) : Int)) rfl rfl (by rw [X.w_i64 (by omega)]; omega)) ?_
      refine X.opw X.wN rfl (X.move (v := .int .i64 _) rfl) ?_
      refine X.opsEnd ?_
      refine hback (i + 1, _, _) _ _ ⟨rfl, rfl, rfl, rfl, rfl, rfl, trivial⟩ ⟨by (dsimp only); omega, by (dsimp only); rw [hstep]; (dsimp only); omega, by (dsimp only); rw [hstep, if_neg hc]; (dsimp only); omega, (hSn.keep (hk3.trans hk4)), ((hk.trans hk3).trans hk4)⟩ (by (dsimp only); omega)
  · refine X.opsEnd ?_
    refine X.seq ?_
    refine X.condF rfl ?_
    refine X.exit rfl ?_
    refine X.seq ?_
    refine X.region ?_
    refine X.opw X.wN rfl (X.move rfl) ?_
    refine X.opw X.wN rfl (X.nilCk rfl) ?_
    refine X.opw X.wN rfl (X.fldB (j := 5) Tryz.underlying71 rfl rfl Tryz.sizeOf68 rfl) ?_
    refine X.opw X.wN rfl (X.load1B Tryz.isAgg68 (h.B.keep hk) rfl rfl) ?_
    refine X.opw X.wN rfl (X.lenSl Tryz.underlying68 rfl) ?_
    refine X.opw X.wN rfl (X.move (v := .int .i64 _) rfl) ?_
    refine X.opw X.wN rfl (X.move (v := .int .i64 _) rfl) ?_
    refine X.opw X.wN rfl (X.assign (v := .int .i64 _) rfl) ?_
    refine X.opw X.wN rfl (X.assign (v := .int .i64 _) rfl) ?_
    refine X.opw X.wN rfl (X.assign (v := .int .i64 _) rfl) ?_
    refine X.opsEnd ?_
    refine X.ret3 (v1 := (.int .i64 _)) (v2 := (.int .i64 _)) (v3 := (.int .i64 _)) Tryz.func14 Tryz.results14 rfl rfl rfl ?_
    have e1 : s0.near.take i = s0.near := List.take_of_length_le (by omega)
    rw [e1] at ha hz
    rw [ha, hz, ← hchl]
    exact ⟨rfl, hk⟩
theorem looseR_c {col : Nat → Nat} {w : World} {b : Nat} {s : DS} (h : DkR col w b s) (hok : s.Ok) (hsz : s.size ≤ 200000) : Ret Tryz.prog 14 #[ptrV b] w fun r w' => r = .tuple #[.int .i64 (s.loose.1 : Int), .int .i64 (s.loose.2.1 : Int), .int .i64 (s.loose.2.2 : Int)] ∧ Keep w w' := let ⟨_, _, _, _, _, _, _, _, h⟩ := h; Loose_c w h hok hsz
end Go.Proofs.YtcdebnppbnmmgaaGreat

namespace Go.Proofs.YtcdebnppbnmmgaaGreat
open Go Go.Proofs.YtcdebnppbnmmgaaGreat.X
set_option linter.unusedVariables false
set_option linter.unusedSimpArgs false
def bit (l : List Bool) (n : Nat) : Bool := l.getD n false
/-- What a loss keeps: bits, so many of them taken. -/
abbrev kpL (A : Option Addr) (n c : Nat) (j : Int) : List Value := [.slice A n c, .int .i64 j]
theorem bit_at {l : List Bool} {j : Nat} {x : Bool} (h : l[j]? = some x) : bit l j = x := by rw [bit, List.getD_eq_getElem?_getD, h]; rfl
theorem bit_out {l : List Bool} {j : Nat} (h : l.length ≤ j) : bit l j = false := by rw [bit, List.getD_eq_getElem?_getD, List.getElem?_eq_none h]; rfl
set_option maxHeartbeats 4000000 in
set_option maxRecDepth 100000 in
theorem next_c {lo hi bk nl cl : Nat} {Al : Option Addr} {l : List Bool} (j : Nat) (w : World) (hB : Blk w bk (kpL Al nl cl (j : Int)) 103) (hS : Sl KBo lo hi w Al nl l) (hbk : bk < lo ∨ hi ≤ bk) (hj : j ≤ 1000000000) : Ret Tryz.prog 73 #[ptrV bk] w fun r w' => r = .bool (bit l j) ∧ Blk w' bk (kpL Al nl cl ((j : Int) + 1)) 103 ∧ Ext (fun q => q = bk) w w' := by
  have hl := hS.len
  refine X.enter Tryz.func73 rfl Tryz.ntmps73 rfl ?_
  refine X.seq ?_
  refine X.region ?_
  refine X.opw X.wN rfl (X.assign rfl) ?_
  refine X.opsEnd ?_
  refine X.seq ?_
  refine X.region ?_
  refine X.opw X.wN rfl (X.move rfl) ?_
  refine X.opw X.wN rfl (X.nilCk rfl) ?_
  refine X.opw X.wN rfl (X.fldB (j := 1) Tryz.underlying103 rfl rfl Tryz.sizeOf3 rfl) ?_
  refine X.opw X.wN rfl (X.load1B Tryz.isAgg3 hB rfl rfl) ?_
  refine X.opw X.wN rfl (X.add rfl rfl (X.w_i64 (by omega))) ?_
  refine X.opw X.wN rfl (X.nilCk rfl) ?_
  refine X.opw X.wN rfl (X.fldB (j := 1) Tryz.underlying103 rfl rfl Tryz.sizeOf3 rfl) ?_
  refine X.opE X.wN rfl (X.storeE Tryz.sizeOf3 hB rfl rfl rfl rfl) ?_
  rintro _ w1 ⟨hB1, hx1, hz1⟩
  refine X.opsEnd ?_
  refine X.seq ?_
  refine X.regionD (fun _ => False) 23 (by kernel_rfl) (by kernel_rfl) (fun w2 hk2 hz2 => ?_)
  refine X.dTake 0 rfl (by kernel_rfl) (by kernel_rfl) (by kernel_rfl) (X.dwN rfl) (fun w' hk' => X.move rfl) ?_
  refine X.dTake 1 rfl (by kernel_rfl) (by kernel_rfl) (by kernel_rfl) (X.dwN rfl) (fun w' hk' => X.nilCk rfl) ?_
  refine X.dTake 2 rfl (by kernel_rfl) (by kernel_rfl) (by kernel_rfl) (X.dwN rfl) (fun w' hk' => X.fldB (j := 1) Tryz.underlying103 rfl rfl Tryz.sizeOf3 rfl) ?_
  refine X.dTake 3 rfl (by kernel_rfl) (by kernel_rfl) (by kernel_rfl) (X.dwN rfl) (fun w' hk' => X.load1B Tryz.isAgg3 (hB1.keep (hk2.trans hk')) rfl rfl) ?_
  refine X.dTake 4 rfl (by kernel_rfl) (by kernel_rfl) (by kernel_rfl) (X.dwN rfl) (fun w' hk' => X.move rfl) ?_
  refine X.dTake 5 rfl (by kernel_rfl) (by kernel_rfl) (by kernel_rfl) (X.dwN rfl) (fun w' hk' => X.nilCk rfl) ?_
  refine X.dTake 6 rfl (by kernel_rfl) (by kernel_rfl) (by kernel_rfl) (X.dwN rfl) (fun w' hk' => X.fldB (j := 0) Tryz.underlying103 rfl rfl Tryz.sizeOf32 rfl) ?_
  refine X.dTake 7 rfl (by kernel_rfl) (by kernel_rfl) (by kernel_rfl) (X.dwN rfl) (fun w' hk' => X.load1B Tryz.isAgg32 (hB1.keep (hk2.trans hk')) rfl rfl) ?_
  refine X.dTake 8 rfl (by kernel_rfl) (by kernel_rfl) (by kernel_rfl) (X.dwN rfl) (fun w' hk' => X.lenSl Tryz.underlying32 rfl) ?_
  refine X.dTake 9 rfl (by kernel_rfl) (by kernel_rfl) (by kernel_rfl) (X.dwN rfl) (fun w' hk' => X.leq rfl rfl) ?_
  refine X.dTake 10 rfl (by kernel_rfl) (by kernel_rfl) (by kernel_rfl) (X.dwN rfl) (fun w' hk' => X.move (v := .bool _) rfl) ?_
  refine X.dFork 20 rfl (fun h20 => ?_) (fun h20 => ?_)
  · have h20 := of_decide_eq_true h20
    obtain ⟨x, hx⟩ := getN j hl (by omega)
    refine X.dTake 11 rfl (by kernel_rfl) (by kernel_rfl) (by kernel_rfl) (X.dwG rfl rfl rfl) (fun w' hk' => X.move rfl) ?_
    refine X.dTake 12 rfl (by kernel_rfl) (by kernel_rfl) (by kernel_rfl) (X.dwG rfl rfl rfl) (fun w' hk' => X.nilCk rfl) ?_
    refine X.dTake 13 rfl (by kernel_rfl) (by kernel_rfl) (by kernel_rfl) (X.dwG rfl rfl rfl) (fun w' hk' => X.fldB (j := 0) Tryz.underlying103 rfl rfl Tryz.sizeOf32 rfl) ?_
    refine X.dTake 14 rfl (by kernel_rfl) (by kernel_rfl) (by kernel_rfl) (X.dwG rfl rfl rfl) (fun w' hk' => X.load1B Tryz.isAgg32 (hB1.keep (hk2.trans hk')) rfl rfl) ?_
    refine X.dTake 15 rfl (by kernel_rfl) (by kernel_rfl) (by kernel_rfl) (X.dwG rfl rfl rfl) (fun w' hk' => X.move rfl) ?_
    refine X.dTake 16 rfl (by kernel_rfl) (by kernel_rfl) (by kernel_rfl) (X.dwG rfl rfl rfl) (fun w' hk' => X.nilCk rfl) ?_
    refine X.dTake 17 rfl (by kernel_rfl) (by kernel_rfl) (by kernel_rfl) (X.dwG rfl rfl rfl) (fun w' hk' => X.fldB (j := 1) Tryz.underlying103 rfl rfl Tryz.sizeOf3 rfl) ?_
    refine X.dTake 18 rfl (by kernel_rfl) (by kernel_rfl) (by kernel_rfl) (X.dwG rfl rfl rfl) (fun w' hk' => X.load1B Tryz.isAgg3 (hB1.keep (hk2.trans hk')) rfl rfl) ?_
    refine X.dTake 19 rfl (by kernel_rfl) (by kernel_rfl) (by kernel_rfl) (X.dwG rfl rfl rfl) (fun w' hk' => X.sub (c := (j : Int)) rfl rfl (by rw [X.w_i64 (by omega)]; omega)) ?_
    refine X.dTake 20 rfl (by kernel_rfl) (by kernel_rfl) (by kernel_rfl) (X.dwG rfl rfl rfl) (fun w' hk' => X.idxS ((hS.ext hx1 (by first | (intros; (try simp only [] at *); omega) | (intro q g1 g2 g3; have g3 : q = _ := g3; subst g3; omega))).keep (hk2.trans hk')) Tryz.underlying32 Tryz.sizeOf4 rfl rfl ⟨by omega, by omega⟩) ?_
    refine X.dTake 21 rfl (by kernel_rfl) (by kernel_rfl) (by kernel_rfl) (X.dwG rfl rfl rfl) (fun w' hk' => X.loadS Tryz.isAgg4 ((hS.ext hx1 (by first | (intros; (try simp only [] at *); omega) | (intro q g1 g2 g3; have g3 : q = _ := g3; subst g3; omega))).keep (hk2.trans hk')) hx rfl (fun _ h => by rw [h.1]; rfl)) ?_
    refine X.dTake 22 rfl (by kernel_rfl) (by kernel_rfl) (by kernel_rfl) (X.dwN rfl) (fun w' hk' => X.pickT (v := .bool _) rfl rfl) ?_
    refine X.dStep (i := 23) (by kernel_rfl) rfl (X.dwN rfl) (X.assign (v := .bool _) rfl) (fun h => absurd h (by decide)) ?_
    refine X.dEnd (by kernel_rfl) ?_
    refine X.ret1 (v := (.bool _)) Tryz.func73 Tryz.results73 rfl ?_
    rw [bit_at hx]
    exact ⟨rfl, (hB1.keep hk2), (Ext.andThen (Ext.andThen (Ext.refl (fun q => q = bk) _) hx1 (by intro q h1 h2; first | exact (h2 : False).elim | exact h2)) hk2 (by intro q h1 h2; first | exact (h2 : False).elim | exact h2))⟩
  · have h20 := of_decide_eq_false h20
    refine X.dTakeS 11 rfl (by kernel_rfl) (by kernel_rfl) (by kernel_rfl) rfl rfl rfl rfl ?_
    refine X.dTakeS 12 rfl (by kernel_rfl) (by kernel_rfl) (by kernel_rfl) rfl rfl rfl rfl ?_
    refine X.dTakeS 13 rfl (by kernel_rfl) (by kernel_rfl) (by kernel_rfl) rfl rfl rfl rfl ?_
    refine X.dTakeS 14 rfl (by kernel_rfl) (by kernel_rfl) (by kernel_rfl) rfl rfl rfl rfl ?_
    refine X.dSkip (i := 15) (by kernel_rfl) rfl rfl rfl rfl rfl ?_
    refine X.dSkip (i := 16) (by kernel_rfl) rfl rfl rfl rfl rfl ?_
    refine X.dSkip (i := 17) (by kernel_rfl) rfl rfl rfl rfl rfl ?_
    refine X.dSkip (i := 18) (by kernel_rfl) rfl rfl rfl rfl rfl ?_
    refine X.dSkip (i := 19) (by kernel_rfl) rfl rfl rfl rfl rfl ?_
    refine X.dSkip (i := 20) (by kernel_rfl) rfl rfl rfl rfl rfl ?_
    refine X.dSkip (i := 21) (by kernel_rfl) rfl rfl rfl rfl rfl ?_
    refine X.dTake 22 rfl (by kernel_rfl) (by kernel_rfl) (by kernel_rfl) (X.dwN rfl) (fun w' hk' => X.pickF (v := .bool false) rfl rfl) ?_
    refine X.dStep (i := 23) (by kernel_rfl) rfl (X.dwN rfl) (X.assign (v := .bool false) rfl) (fun h => absurd h (by decide)) ?_
    refine X.dEnd (by kernel_rfl) ?_
    refine X.ret1 (v := (.bool _)) Tryz.func73 Tryz.results73 rfl ?_
    rw [bit_out (by omega)]
    exact ⟨rfl, (hB1.keep hk2), (Ext.andThen (Ext.andThen (Ext.refl (fun q => q = bk) _) hx1 (by intro q h1 h2; first | exact (h2 : False).elim | exact h2)) hk2 (by intro q h1 h2; first | exact (h2 : False).elim | exact h2))⟩
end Go.Proofs.YtcdebnppbnmmgaaGreat

namespace Go.Proofs.YtcdebnppbnmmgaaGreat
open Go Go.Proofs.YtcdebnppbnmmgaaGreat.X
set_option linter.unusedVariables false
set_option linter.unusedSimpArgs false
/-- A sector as it was fixed, up to a place. -/
def zapTo (fx b : List UInt8) (s x : Nat) : List UInt8 := b.mapIdx fun i y => if i / 64 = s ∧ i < x then fx.getD i 0 else y
def zap (fx b : List UInt8) (s : Nat) : List UInt8 := b.mapIdx fun i y => if i / 64 = s then fx.getD i 0 else y
theorem zapTo_len (fx b : List UInt8) (s x : Nat) : (zapTo fx b s x).length = b.length := by simp [zapTo]
theorem zap_len (fx b : List UInt8) (s : Nat) : (zap fx b s).length = b.length := by simp [zap]
theorem zapTo_start (fx b : List UInt8) (s : Nat) : zapTo fx b s (s * 64) = b := by
  apply List.ext_getElem?
  intro i
  rw [zapTo, List.getElem?_mapIdx]
  cases b[i]? with
  | none => rfl
  | some y => simp only [Option.map_some]; rw [if_neg (by omega)]
theorem zapTo_end (fx b : List UInt8) (s x : Nat) (h : min ((s + 1) * 64) b.length ≤ x) : zapTo fx b s x = zap fx b s := by
  apply List.ext_getElem?
  intro i
  rw [zapTo, zap, List.getElem?_mapIdx, List.getElem?_mapIdx]
  rcases Nat.lt_or_ge i b.length with hi | hi
  · rw [List.getElem?_eq_getElem hi]
    simp only [Option.map_some]
    by_cases e : i / 64 = s
    · rw [if_pos ⟨e, by omega⟩, if_pos e]
    · rw [if_neg (fun h => e h.1), if_neg e]
  · rw [List.getElem?_eq_none hi]; rfl
theorem zapTo_step (fx b : List UInt8) (s x : Nat) (h1 : x / 64 = s) (h2 : x < b.length) : zapTo fx b s (x + 1) = (zapTo fx b s x).set x (fx.getD x 0) := by
  apply List.ext_getElem?
  intro i
  rw [List.getElem?_set, zapTo_len]
  by_cases e : x = i
  · subst e
    rw [if_pos rfl, if_pos h2, zapTo, List.getElem?_mapIdx, List.getElem?_eq_getElem h2]
    simp only [Option.map_some]
    rw [if_pos ⟨h1, by omega⟩]
  · rw [if_neg e, zapTo, zapTo, List.getElem?_mapIdx, List.getElem?_mapIdx]
    cases b[i]? with
    | none => rfl
    | some y =>
      simp only [Option.map_some]
      congr 1
      by_cases e2 : i / 64 = s ∧ i < x
      · rw [if_pos ⟨e2.1, by omega⟩, if_pos e2]
      · rw [if_neg (fun h => e2 ⟨h.1, by omega⟩), if_neg e2]
/-- Bytes, each loose sector as it was fixed unless its bit keeps it. -/
def zaps (kp : List Bool) (fx : List UInt8) : Nat → List Int → List UInt8 → List UInt8
  | _, [], b => b
  | n, s :: l, b => zaps kp fx (n + 1) l (if bit kp n = true then b else zap fx b s.toNat)
theorem zaps_len (kp : List Bool) (fx : List UInt8) : ∀ (l : List Int) (n : Nat) (b : List UInt8), (zaps kp fx n l b).length = b.length
  | [], _, _ => rfl
  | s :: l, n, b => by
    rw [zaps, zaps_len kp fx l]
    split
    · rfl
    · exact zap_len fx b _
def keptB (kp : List Bool) (n : Nat) (sp : List Int) (f : FILE) (size : Nat) : List UInt8 := ((fun all : List UInt8 => (all ++ f.2.drop all.length).take size) (zaps kp f.2 n sp f.1))
def sizeK (sz : List Bool) (m : Nat) (f : FILE) : Nat := if f.1.length ≠ f.2.length ∧ bit sz m = true then f.1.length else f.2.length
def cntK (f : FILE) : Nat := if f.1.length ≠ f.2.length then 1 else 0
theorem spotL_at {ls : LS} {k : Int} {n i : Nat} {x : Int} (h : (spotL ls k n)[i]? = some x) : ∃ s : Nat, x = (s : Int) ∧ s < n := by
  obtain ⟨s, hs, rfl⟩ := List.mem_map.1 (List.mem_of_getElem? h)
  exact ⟨s, rfl, List.mem_range.1 (List.mem_filter.1 hs).1⟩
theorem drop_cons {α : Type} {l : List α} {i : Nat} {x : α} (hx : l[i]? = some x) : l.drop i = x :: l.drop (i + 1) := drop_at hx
set_option maxHeartbeats 4000000 in
set_option maxRecDepth 100000 in
theorem kept_c {col : Nat → Nat} {b bf bd bx bl : Nat} {A : Option Addr} {n c : Nat} {pt : List Nat} {s0 : DS} {lo hi bs bz q1 r1 q2 r2 : Nat} {Aq1 Aq2 : Option Addr} {kp sz : List Bool} (k : Int) (j1 j2 : Nat) (w : World) (h : DkB col w b bf bd bx bl A n c pt s0) (hok : s0.Ok) (hk0 : 0 ≤ k) (hk1 : k < s0.fs.length) (hB1 : Blk w bs (kpL Aq1 q1 r1 (j1 : Int)) 103) (hB2 : Blk w bz (kpL Aq2 q2 r2 (j2 : Int)) 103) (hS1 : Sl KBo lo hi w Aq1 q1 kp) (hS2 : Sl KBo lo hi w Aq2 q2 sz) (hbs : bs < lo ∨ hi ≤ bs) (hbz : bz < lo ∨ hi ≤ bz) (hne : bs ≠ bz) (hc1 : col bs = 0) (hc2 : col bz = 0) (hhi : hi ≤ w.heap.size) (hj1 : j1 ≤ 900000000) (hj2 : j2 ≤ 900000000) :
    Ret Tryz.prog 53 #[ptrV b, .int .i64 k, ptrV bs, ptrV bz] w fun r w' => ∃ A', r = .slice A' (sizeK sz j2 (fat s0.fs k)) (sizeK sz j2 (fat s0.fs k)) ∧ Row KB 5 (fun q => w.heap.size ≤ q ∧ q < w'.heap.size) 0 0 w' (.slice A' (sizeK sz j2 (fat s0.fs k)) (sizeK sz j2 (fat s0.fs k))) (keptB kp j1 (s0.spots k) (fat s0.fs k) (sizeK sz j2 (fat s0.fs k))) ∧ Blk w' bs (kpL Aq1 q1 r1 ((j1 + (s0.spots k).length : Nat) : Int)) 103 ∧ Blk w' bz (kpL Aq2 q2 r2 ((j2 + cntK (fat s0.fs k) : Nat) : Int)) 103 ∧ Ext (fun q => q = bs ∨ q = bz) w w' := by
  have hbl := h.B.lt
  have hfl := h.F.lt
  have hdl := h.G.lt
  have hxl := h.X.lt
  have hll := h.L.lt
  have hcb := h.cb
  have hcf := h.cf
  have hcd := h.cd
  have hcx := h.cx
  have hcl := h.cl
  obtain ⟨z1, z2, z3, z4, z5, z6, z7, z8, z9, z10⟩ := h.ne
  have hlt := h.lt
  have hok1 := hok.lf
  have hok2 := hok.few
  obtain ⟨pf, f, A1, n1, c1, A2, n2, c2, hfb, hpf, hff, hn1, hn2, hfl1, hpc, hBf, hM1, hM2⟩ := h.at_ hk0 hk1
  have hlf := hok.len hff
  have hpl2 := hBf.lt
  have hfat := fat_at hff
  rw [hfat]
  have hcc1 := (hM1.rd KB_flat).1
  have hcc2 := (hM2.rd KB_flat).1
  clear z1 z2 z3 z4 z5 z6 z7 z8 z9 z10
  have hbsl := hB1.lt
  have hbzl := hB2.lt
  have hnpb : bs ≠ pf := fun e => by subst e; omega
  have hnpz : bz ≠ pf := fun e => by subst e; omega
  have hbbs : bs ≠ b := fun e => by subst e; omega
  have hbbz : bz ≠ b := fun e => by subst e; omega
  refine X.enter Tryz.func53 rfl Tryz.ntmps53 rfl ?_
  refine X.seq ?_
  refine X.region ?_
  refine X.opw X.wN rfl (X.assign rfl) ?_
  refine X.opsEnd ?_
  refine X.seq ?_
  refine X.region ?_
  refine X.opw X.wN rfl (X.move rfl) ?_
  refine X.opw X.wN rfl (X.nilCk rfl) ?_
  refine X.opw X.wN rfl (X.fldB (j := 1) Tryz.underlying71 rfl rfl Tryz.sizeOf66 rfl) ?_
  refine X.opw X.wN rfl (X.load1B Tryz.isAgg66 h.B rfl rfl) ?_
  refine X.opw X.wN rfl (X.move (v := .int .i64 _) rfl) ?_
  refine X.opw X.wN rfl (X.lookupAt Tryz.underlying66 (keyInt Tryz.underlying3) Tryz.zeroValue85 (h.F) hfb rfl rfl) ?_
  refine X.opw X.wN rfl (X.assign rfl) ?_
  refine X.opsEnd ?_
  refine X.seq ?_
  refine X.region ?_
  refine X.opw X.wN rfl (X.move rfl) ?_
  refine X.opw X.wN rfl (X.nilCk rfl) ?_
  refine X.opw X.wN rfl (X.fldB (j := 1) Tryz.underlying87 rfl rfl Tryz.sizeOf31 rfl) ?_
  refine X.opw X.wN rfl (X.load1B Tryz.isAgg31 hBf rfl rfl) ?_
  refine X.opw X.wN rfl (X.lenSl Tryz.underlying31 rfl) ?_
  refine X.opw X.wN rfl (X.assign (v := .int .i64 _) rfl) ?_
  refine X.opsEnd ?_
  refine X.seq ?_
  refine X.seq ?_
  refine X.region ?_
  refine X.opw X.wN rfl (X.move rfl) ?_
  refine X.opw X.wN rfl (X.nilCk rfl) ?_
  refine X.opw X.wN rfl (X.fldB (j := 0) Tryz.underlying87 rfl rfl Tryz.sizeOf31 rfl) ?_
  refine X.opw X.wN rfl (X.load1B Tryz.isAgg31 hBf rfl rfl) ?_
  refine X.opw X.wN rfl (X.lenSl Tryz.underlying31 rfl) ?_
  refine X.opw X.wN rfl (X.move (v := .int .i64 _) rfl) ?_
  refine X.opP X.wN rfl rfl (X.neI rfl rfl) (fun h32 => ?_) (fun h32 => ?_)
  · have h32 : n1 ≠ n2 := by omega
    refine X.opw X.wN rfl (X.move (v := .bool true) rfl) ?_
    refine X.opw (X.wG rfl rfl rfl) rfl (X.move rfl) ?_
    refine X.opE (X.wG rfl rfl rfl) rfl (X.callE (next_c (j2) _ hB2 hS2 hbz (by omega)) Tryz.call73 rfl rfl) ?_
    rintro _ w1 ⟨rfl, gz1, hx1⟩
    have hx1' := hx1.size
    refine X.opw X.wN rfl (X.pickT (v := .bool _) rfl rfl) ?_
    refine X.opsEnd ?_
    refine X.condB rfl (fun hbit => ?_) (fun hbit => ?_)
    · 
      refine X.region ?_
      refine X.opw X.wN rfl (X.move rfl) ?_
      refine X.opw X.wN rfl (X.nilCk rfl) ?_
      refine X.opw X.wN rfl (X.fldB (j := 0) Tryz.underlying87 rfl rfl Tryz.sizeOf31 rfl) ?_
      refine X.opw X.wN rfl (X.load1B Tryz.isAgg31 (hBf.ext hx1 (by first | (intros; (try simp only [] at *); omega) | (intro hh; (try simp only [] at hh); omega) | (intro q h1 h2; (try simp only [] at h1 h2); have := hlt q (by omega); omega) | (intro hh; have hh : _ = _ := hh; subst hh; omega) | (intro q h1 h2; have h2 : q = _ := h2; subst h2; (try simp only [] at h1); omega) | (intro q h1 h2; (try simp only [] at h1 h2); omega) | (intro q h1 h2; have h2 : q = _ := h2; have := hlt q (by (try simp only [] at h1); omega); omega) | (intro q h1 h2; (try simp only [] at h1 h2); rcases h2 with h2 | h2 | h2 <;> first | omega | (subst h2; omega)) | (intro q h1 h2; (try simp only [] at h1 h2); rcases h2 with h2 | h2 | h2 | h2 <;> first | omega | (subst h2; omega)))) rfl rfl) ?_
      refine X.opw X.wN rfl (X.lenSl Tryz.underlying31 rfl) ?_
      refine X.opw X.wN rfl (X.assign (v := .int .i64 _) rfl) ?_
      refine X.opsEnd ?_
      refine X.seq ?_
      refine X.region ?_
      refine X.opw X.wN rfl (X.move rfl) ?_
      refine X.opw X.wN rfl (X.nilCk rfl) ?_
      refine X.opw X.wN rfl (X.fldB (j := 0) Tryz.underlying87 rfl rfl Tryz.sizeOf31 rfl) ?_
      refine X.opw X.wN rfl (X.load1B Tryz.isAgg31 (hBf.ext hx1 (by first | (intros; (try simp only [] at *); omega) | (intro hh; (try simp only [] at hh); omega) | (intro q h1 h2; (try simp only [] at h1 h2); have := hlt q (by omega); omega) | (intro hh; have hh : _ = _ := hh; subst hh; omega) | (intro q h1 h2; have h2 : q = _ := h2; subst h2; (try simp only [] at h1); omega) | (intro q h1 h2; (try simp only [] at h1 h2); omega) | (intro q h1 h2; have h2 : q = _ := h2; have := hlt q (by (try simp only [] at h1); omega); omega) | (intro q h1 h2; (try simp only [] at h1 h2); rcases h2 with h2 | h2 | h2 <;> first | omega | (subst h2; omega)) | (intro q h1 h2; (try simp only [] at h1 h2); rcases h2 with h2 | h2 | h2 | h2 <;> first | omega | (subst h2; omega)))) rfl rfl) ?_
      refine X.opE X.wN rfl (X.callE (CloneB_c _ (((hM1.ext hx1 (by intros; omega) (by first | (intros; (try simp only [] at *); omega) | (intro hh; (try simp only [] at hh); omega) | (intro q h1 h2; (try simp only [] at h1 h2); have := hlt q (by omega); omega) | (intro hh; have hh : _ = _ := hh; subst hh; omega) | (intro q h1 h2; have h2 : q = _ := h2; subst h2; (try simp only [] at h1); omega) | (intro q h1 h2; (try simp only [] at h1 h2); omega) | (intro q h1 h2; have h2 : q = _ := h2; have := hlt q (by (try simp only [] at h1); omega); omega) | (intro q h1 h2; (try simp only [] at h1 h2); rcases h2 with h2 | h2 | h2 <;> first | omega | (subst h2; omega)) | (intro q h1 h2; (try simp only [] at h1 h2); rcases h2 with h2 | h2 | h2 | h2 <;> first | omega | (subst h2; omega))))).rd KB_flat).2 (by omega)) Tryz.call54 rfl rfl) ?_
      rintro _ w2 ⟨Ac, cc, rfl, hcc, gMc, hk2⟩
      have hk2' := hk2.size
      refine X.opw X.wN rfl (X.assign rfl) ?_
      refine X.opsEnd ?_
      refine X.seq ?_
      refine X.seq ?_
      refine X.region ?_
      refine X.opw X.wN rfl (X.move rfl) ?_
      refine X.opw X.wN rfl (X.move (v := .int .i64 _) rfl) ?_
      refine X.opE X.wN rfl (X.callE (spots_c k _ (h.ext (Ext.andThen (Ext.andThen (Ext.refl (fun q => q = bz) _) hx1 (by intro q h1 h2; first | exact (h2 : False).elim | exact h2)) hk2 (by intro q h1 h2; first | exact (h2 : False).elim | exact h2)) (by intro q h1 h2; have h2 : q = _ := h2; subst h2; exact h1 hc2)) hok hk0 hk1) Tryz.call50 rfl rfl) ?_
      rintro _ w3 ⟨As, cs, rfl, hcs, hMs, hk3⟩
      have hk3' := hk3.size
      refine X.opw X.wN rfl (X.lenSl Tryz.underlying95 rfl) ?_
      refine X.opw X.wN rfl (X.move rfl) ?_
      refine X.opsEnd ?_
      refine X.block ?_
      obtain ⟨_, _, e9, _, gS0⟩ := hMs.slF KI_flat w2.heap.size (fun q hq => hq.1)
      injection e9 with e91 e92 e93
      subst e91 e93
      clear e92
      have hspl : (s0.spots k).length ≤ (n1 + 63) / 64 := by rw [DS.spots, hfl1]; exact spotL_len _ _ _
      have gF := ((hBf.ext hx1 (by first | (intros; (try simp only [] at *); omega) | (intro hh; (try simp only [] at hh); omega) | (intro q h1 h2; (try simp only [] at h1 h2); have := hlt q (by omega); omega) | (intro hh; have hh : _ = _ := hh; subst hh; omega) | (intro q h1 h2; have h2 : q = _ := h2; subst h2; (try simp only [] at h1); omega) | (intro q h1 h2; (try simp only [] at h1 h2); omega) | (intro q h1 h2; have h2 : q = _ := h2; have := hlt q (by (try simp only [] at h1); omega); omega) | (intro q h1 h2; (try simp only [] at h1 h2); rcases h2 with h2 | h2 | h2 <;> first | omega | (subst h2; omega)) | (intro q h1 h2; (try simp only [] at h1 h2); rcases h2 with h2 | h2 | h2 | h2 <;> first | omega | (subst h2; omega)))).keep (hk2.trans hk3))
      have gC := (gMc.keep hk3)
      have gB := ((hB1.ext hx1 (by first | (intros; (try simp only [] at *); omega) | (intro hh; (try simp only [] at hh); omega) | (intro q h1 h2; (try simp only [] at h1 h2); have := hlt q (by omega); omega) | (intro hh; have hh : _ = _ := hh; subst hh; omega) | (intro q h1 h2; have h2 : q = _ := h2; subst h2; (try simp only [] at h1); omega) | (intro q h1 h2; (try simp only [] at h1 h2); omega) | (intro q h1 h2; have h2 : q = _ := h2; have := hlt q (by (try simp only [] at h1); omega); omega) | (intro q h1 h2; (try simp only [] at h1 h2); rcases h2 with h2 | h2 | h2 <;> first | omega | (subst h2; omega)) | (intro q h1 h2; (try simp only [] at h1 h2); rcases h2 with h2 | h2 | h2 | h2 <;> first | omega | (subst h2; omega)))).keep (hk2.trans hk3))
      have gZ := (gz1.keep (hk2.trans hk3))
      have gS1 := (((hS1.ext hx1 (by intro q g1 g2 g3; (try simp only [] at g3); first | omega | (have g3 : q = _ := g3; omega))).keep hk2).keep hk3)
      have gx0 := (Ext.andThen (Ext.andThen (Ext.andThen (Ext.refl (fun q => q = bs ∨ q = bz) _) hx1 (by intro q h1 h2; first | exact (h2 : False).elim | exact .inr h2)) hk2 (by intro q h1 h2; first | exact (h2 : False).elim | exact .inr h2)) hk3 (by intro q h1 h2; first | exact (h2 : False).elim | exact .inr h2))
      have gxs := gx0.size
      have gF2 := (((hM2.ext hx1 (by intros; omega) (by first | (intros; (try simp only [] at *); omega) | (intro hh; (try simp only [] at hh); omega) | (intro q h1 h2; (try simp only [] at h1 h2); have := hlt q (by omega); omega) | (intro hh; have hh : _ = _ := hh; subst hh; omega) | (intro q h1 h2; have h2 : q = _ := h2; subst h2; (try simp only [] at h1); omega) | (intro q h1 h2; (try simp only [] at h1 h2); omega) | (intro q h1 h2; have h2 : q = _ := h2; have := hlt q (by (try simp only [] at h1); omega); omega) | (intro q h1 h2; (try simp only [] at h1 h2); rcases h2 with h2 | h2 | h2 <;> first | omega | (subst h2; omega)) | (intro q h1 h2; (try simp only [] at h1 h2); rcases h2 with h2 | h2 | h2 | h2 <;> first | omega | (subst h2; omega)))).keep hk2).keep hk3)
      refine X.loopL (σ := Nat × List UInt8) (fun s => [(2, ptrV bs), (9, ptrV pf), (10, .int .i64 (n1 : Int)), (11, .slice Ac n1 cc), (49, .slice As (s0.spots k).length cs), (50, .int .i64 ((s0.spots k).length : Int)), (51, .int .i64 (s.1 : Int))]) (fun s w' => s.1 ≤ (s0.spots k).length ∧ s.2.length = n1 ∧ zaps kp f.2 (j1 + s.1) ((s0.spots k).drop s.1) s.2 = zaps kp f.2 j1 (s0.spots k) f.1 ∧ Blk w' bs (kpL Aq1 q1 r1 ((j1 + s.1 : Nat) : Int)) 103 ∧ Mine KB 5 (fun q => w1.heap.size ≤ q ∧ q < w2.heap.size) 0 0 w' (.slice Ac n1 cc) s.2 ∧ Ext (fun q => q = bs ∨ (w1.heap.size ≤ q ∧ q < w2.heap.size)) w3 w') (fun s => (s0.spots k).length - s.1) (0, f.1) ⟨rfl, rfl, rfl, rfl, rfl, rfl, rfl, trivial⟩ ⟨Nat.zero_le _, hn1.symm, rfl, gB, gC, Ext.refl _ _⟩ ?_
      rintro ⟨i, al⟩ e wi ⟨hi1, hal, hzp, hBs, gMa, hxO⟩ hback
      dsimp only at hi1 hal hzp hBs gMa ⊢
      have hxO' := hxO.size
      refine X.seq ?_
      refine X.region ?_
      refine X.opP X.wN rfl rfl (X.lss rfl rfl) (fun h52 => ?_) (fun h52 => ?_)
      · obtain ⟨xs1, hxs⟩ := getN i (show (s0.spots k).length = (s0.spots k).length from rfl) (by omega)
        obtain ⟨sm, rfl, hsm⟩ := spotL_at hxs
        rw [hfl1, secs] at hsm
        refine X.opsEnd ?_
        refine X.seq ?_
        refine X.condT rfl ?_
        refine X.skip ?_
        refine X.seq ?_
        refine X.block ?_
        refine X.seq ?_
        refine X.region ?_
        refine X.opw X.wN rfl (X.idxS (gS0.ext hxO (by first | (intros; (try simp only [] at *); omega) | (intro hh; (try simp only [] at hh); omega) | (intro q h1 h2; (try simp only [] at h1 h2); have := hlt q (by omega); omega) | (intro hh; have hh : _ = _ := hh; subst hh; omega) | (intro q h1 h2; have h2 : q = _ := h2; subst h2; (try simp only [] at h1); omega) | (intro q h1 h2; (try simp only [] at h1 h2); omega) | (intro q h1 h2; have h2 : q = _ := h2; have := hlt q (by (try simp only [] at h1); omega); omega) | (intro q h1 h2; (try simp only [] at h1 h2); rcases h2 with h2 | h2 | h2 <;> first | omega | (subst h2; omega)) | (intro q h1 h2; (try simp only [] at h1 h2); rcases h2 with h2 | h2 | h2 | h2 <;> first | omega | (subst h2; omega)))) Tryz.underlying95 Tryz.sizeOf3 rfl rfl ⟨by omega, by omega⟩) ?_
        refine X.opw X.wN rfl (X.loadS Tryz.isAgg3 (gS0.ext hxO (by first | (intros; (try simp only [] at *); omega) | (intro hh; (try simp only [] at hh); omega) | (intro q h1 h2; (try simp only [] at h1 h2); have := hlt q (by omega); omega) | (intro hh; have hh : _ = _ := hh; subst hh; omega) | (intro q h1 h2; have h2 : q = _ := h2; subst h2; (try simp only [] at h1); omega) | (intro q h1 h2; (try simp only [] at h1 h2); omega) | (intro q h1 h2; have h2 : q = _ := h2; have := hlt q (by (try simp only [] at h1); omega); omega) | (intro q h1 h2; (try simp only [] at h1 h2); rcases h2 with h2 | h2 | h2 <;> first | omega | (subst h2; omega)) | (intro q h1 h2; (try simp only [] at h1 h2); rcases h2 with h2 | h2 | h2 | h2 <;> first | omega | (subst h2; omega)))) hxs rfl (fun _ h => by rw [h.1]; rfl)) ?_
        refine X.opw X.wN rfl (X.assign (v := .int .i64 _) rfl) ?_
        refine X.opsEnd ?_
        refine X.seq ?_
        refine X.seq ?_
        refine X.region ?_
        refine X.opw X.wN rfl (X.move rfl) ?_
        refine X.opE X.wN rfl (X.callE (next_c (j1 + i) _ hBs (gS1.ext hxO (by intro q g1 g2 g3; (try simp only [] at g3); first | omega | (have g3 : q = _ := g3; omega))) hbs (by omega)) Tryz.call73 rfl rfl) ?_
        rintro _ w4 ⟨rfl, gs4, hx4⟩
        have hx4' := hx4.size
        refine X.opsEnd ?_
        refine X.condB rfl (fun hc => ?_) (fun hc => ?_)
        · refine X.exit rfl ?_
          refine X.region ?_
          refine X.opw X.wN rfl (X.add (c := ((i + 1 : Nat) : Int)) rfl rfl (by rw [X.w_i64 (by omega)]; omega)) ?_
          refine X.opw X.wN rfl (X.move (v := .int .i64 _) rfl) ?_
          refine X.opsEnd ?_
          refine hback (i + 1, al) _ _ ⟨rfl, rfl, rfl, rfl, rfl, rfl, rfl, trivial⟩ ⟨by (dsimp only); omega, hal, ?_, (by rw [show ((j1 + (i + 1) : Nat) : Int) = ((j1 + i : Nat) : Int) + 1 by omega]; exact gs4), (gMa.ext hx4 (by first | (intros; (try simp only [] at *); omega) | (intro hh; (try simp only [] at hh); omega) | (intro q h1 h2; (try simp only [] at h1 h2); have := hlt q (by omega); omega) | (intro hh; have hh : _ = _ := hh; subst hh; omega) | (intro q h1 h2; have h2 : q = _ := h2; subst h2; (try simp only [] at h1); omega) | (intro q h1 h2; (try simp only [] at h1 h2); omega) | (intro q h1 h2; have h2 : q = _ := h2; have := hlt q (by (try simp only [] at h1); omega); omega) | (intro q h1 h2; (try simp only [] at h1 h2); rcases h2 with h2 | h2 | h2 <;> first | omega | (subst h2; omega)) | (intro q h1 h2; (try simp only [] at h1 h2); rcases h2 with h2 | h2 | h2 | h2 <;> first | omega | (subst h2; omega))) (by first | (intros; (try simp only [] at *); omega) | (intro hh; (try simp only [] at hh); omega) | (intro q h1 h2; (try simp only [] at h1 h2); have := hlt q (by omega); omega) | (intro hh; have hh : _ = _ := hh; subst hh; omega) | (intro q h1 h2; have h2 : q = _ := h2; subst h2; (try simp only [] at h1); omega) | (intro q h1 h2; (try simp only [] at h1 h2); omega) | (intro q h1 h2; have h2 : q = _ := h2; have := hlt q (by (try simp only [] at h1); omega); omega) | (intro q h1 h2; (try simp only [] at h1 h2); rcases h2 with h2 | h2 | h2 <;> first | omega | (subst h2; omega)) | (intro q h1 h2; (try simp only [] at h1 h2); rcases h2 with h2 | h2 | h2 | h2 <;> first | omega | (subst h2; omega)))), (Ext.andThen (Ext.andThen (Ext.refl (fun q => q = bs ∨ (w1.heap.size ≤ q ∧ q < w2.heap.size)) _) hxO (by intro q h1 h2; first | exact (h2 : False).elim | exact h2 | exact .inl h2)) hx4 (by intro q h1 h2; first | exact (h2 : False).elim | exact h2 | exact .inl h2))⟩ (by (dsimp only); omega)
          rw [← hzp, drop_cons hxs, zaps, if_pos hc]
          rfl
        · refine X.skip ?_
          refine X.seq ?_
          refine X.region ?_
          refine X.opw X.wN rfl (X.move (v := .int .i64 _) rfl) ?_
          refine X.opw X.wN rfl (X.mul (c := ((sm * 64 : Nat) : Int)) rfl rfl (by rw [X.w_i64 (by omega)]; omega)) ?_
          refine X.opw X.wN rfl (X.assign (v := .int .i64 _) rfl) ?_
          refine X.opsEnd ?_
          refine X.block ?_
          have kF := ((gF.ext hxO (by first | (intros; (try simp only [] at *); omega) | (intro hh; (try simp only [] at hh); omega) | (intro q h1 h2; (try simp only [] at h1 h2); have := hlt q (by omega); omega) | (intro hh; have hh : _ = _ := hh; subst hh; omega) | (intro q h1 h2; have h2 : q = _ := h2; subst h2; (try simp only [] at h1); omega) | (intro q h1 h2; (try simp only [] at h1 h2); omega) | (intro q h1 h2; have h2 : q = _ := h2; have := hlt q (by (try simp only [] at h1); omega); omega) | (intro q h1 h2; (try simp only [] at h1 h2); rcases h2 with h2 | h2 | h2 <;> first | omega | (subst h2; omega)) | (intro q h1 h2; (try simp only [] at h1 h2); rcases h2 with h2 | h2 | h2 | h2 <;> first | omega | (subst h2; omega)))).ext hx4 (by first | (intros; (try simp only [] at *); omega) | (intro hh; (try simp only [] at hh); omega) | (intro q h1 h2; (try simp only [] at h1 h2); have := hlt q (by omega); omega) | (intro hh; have hh : _ = _ := hh; subst hh; omega) | (intro q h1 h2; have h2 : q = _ := h2; subst h2; (try simp only [] at h1); omega) | (intro q h1 h2; (try simp only [] at h1 h2); omega) | (intro q h1 h2; have h2 : q = _ := h2; have := hlt q (by (try simp only [] at h1); omega); omega) | (intro q h1 h2; (try simp only [] at h1 h2); rcases h2 with h2 | h2 | h2 <;> first | omega | (subst h2; omega)) | (intro q h1 h2; (try simp only [] at h1 h2); rcases h2 with h2 | h2 | h2 | h2 <;> first | omega | (subst h2; omega))))
          have kF2 := ((gF2.ext hxO (by intros; omega) (by intro q g1 g2; (try simp only [] at g1 g2); have := hlt q (by omega); first | omega | (have g2 : q = _ := g2; subst g2; omega) | (rcases g2 with g2 | g2 <;> first | omega | (subst g2; omega)))).ext hx4 (by intros; omega) (by intro q g1 g2; (try simp only [] at g1 g2); have := hlt q (by omega); first | omega | (have g2 : q = _ := g2; subst g2; omega) | (rcases g2 with g2 | g2 <;> first | omega | (subst g2; omega))))
          have kM := (gMa.ext hx4 (by first | (intros; (try simp only [] at *); omega) | (intro hh; (try simp only [] at hh); omega) | (intro q h1 h2; (try simp only [] at h1 h2); have := hlt q (by omega); omega) | (intro hh; have hh : _ = _ := hh; subst hh; omega) | (intro q h1 h2; have h2 : q = _ := h2; subst h2; (try simp only [] at h1); omega) | (intro q h1 h2; (try simp only [] at h1 h2); omega) | (intro q h1 h2; have h2 : q = _ := h2; have := hlt q (by (try simp only [] at h1); omega); omega) | (intro q h1 h2; (try simp only [] at h1 h2); rcases h2 with h2 | h2 | h2 <;> first | omega | (subst h2; omega)) | (intro q h1 h2; (try simp only [] at h1 h2); rcases h2 with h2 | h2 | h2 | h2 <;> first | omega | (subst h2; omega))) (by first | (intros; (try simp only [] at *); omega) | (intro hh; (try simp only [] at hh); omega) | (intro q h1 h2; (try simp only [] at h1 h2); have := hlt q (by omega); omega) | (intro hh; have hh : _ = _ := hh; subst hh; omega) | (intro q h1 h2; have h2 : q = _ := h2; subst h2; (try simp only [] at h1); omega) | (intro q h1 h2; (try simp only [] at h1 h2); omega) | (intro q h1 h2; have h2 : q = _ := h2; have := hlt q (by (try simp only [] at h1); omega); omega) | (intro q h1 h2; (try simp only [] at h1 h2); rcases h2 with h2 | h2 | h2 <;> first | omega | (subst h2; omega)) | (intro q h1 h2; (try simp only [] at h1 h2); rcases h2 with h2 | h2 | h2 | h2 <;> first | omega | (subst h2; omega))))
          have kB := gs4
          have kS := ((gS0.ext hxO (by first | (intros; (try simp only [] at *); omega) | (intro hh; (try simp only [] at hh); omega) | (intro q h1 h2; (try simp only [] at h1 h2); have := hlt q (by omega); omega) | (intro hh; have hh : _ = _ := hh; subst hh; omega) | (intro q h1 h2; have h2 : q = _ := h2; subst h2; (try simp only [] at h1); omega) | (intro q h1 h2; (try simp only [] at h1 h2); omega) | (intro q h1 h2; have h2 : q = _ := h2; have := hlt q (by (try simp only [] at h1); omega); omega) | (intro q h1 h2; (try simp only [] at h1 h2); rcases h2 with h2 | h2 | h2 <;> first | omega | (subst h2; omega)) | (intro q h1 h2; (try simp only [] at h1 h2); rcases h2 with h2 | h2 | h2 | h2 <;> first | omega | (subst h2; omega)))).ext hx4 (by first | (intros; (try simp only [] at *); omega) | (intro hh; (try simp only [] at hh); omega) | (intro q h1 h2; (try simp only [] at h1 h2); have := hlt q (by omega); omega) | (intro hh; have hh : _ = _ := hh; subst hh; omega) | (intro q h1 h2; have h2 : q = _ := h2; subst h2; (try simp only [] at h1); omega) | (intro q h1 h2; (try simp only [] at h1 h2); omega) | (intro q h1 h2; have h2 : q = _ := h2; have := hlt q (by (try simp only [] at h1); omega); omega) | (intro q h1 h2; (try simp only [] at h1 h2); rcases h2 with h2 | h2 | h2 <;> first | omega | (subst h2; omega)) | (intro q h1 h2; (try simp only [] at h1 h2); rcases h2 with h2 | h2 | h2 | h2 <;> first | omega | (subst h2; omega))))
          have kx := (Ext.andThen (Ext.andThen (Ext.refl (fun q => q = bs ∨ (w1.heap.size ≤ q ∧ q < w2.heap.size)) _) hxO (by intro q h1 h2; first | exact (h2 : False).elim | exact h2 | exact .inl h2 | exact .inr h2)) hx4 (by intro q h1 h2; first | exact (h2 : False).elim | exact h2 | exact .inl h2 | exact .inr h2))
          have kxs := kx.size
          refine X.loopL (σ := Nat) (fun s => [(2, ptrV bs), (9, ptrV pf), (10, .int .i64 (n1 : Int)), (11, .slice Ac n1 cc), (13, .int .i64 (sm : Int)), (14, .int .i64 (s : Int)), (49, .slice As (s0.spots k).length cs), (50, .int .i64 ((s0.spots k).length : Int)), (51, .int .i64 (i : Int))]) (fun s w' => sm * 64 ≤ s ∧ s ≤ min ((sm + 1) * 64) n1 ∧ Mine KB 5 (fun q => w1.heap.size ≤ q ∧ q < w2.heap.size) 0 0 w' (.slice Ac n1 cc) (zapTo f.2 al sm s) ∧ Ext (fun q => w1.heap.size ≤ q ∧ q < w2.heap.size) w4 w') (fun s => n1 - s) (sm * 64) ⟨rfl, rfl, rfl, rfl, rfl, rfl, rfl, rfl, rfl, trivial⟩ ⟨Nat.le_refl _, by omega, by rw [zapTo_start]; exact kM, Ext.refl _ _⟩ ?_
          rintro x e wx ⟨hx1, hx2, gMx, hxI⟩ hback2
          have hxI' := hxI.size
          have hzl := zapTo_len f.2 al sm x
          refine X.seq ?_
          refine X.seq ?_
          refine X.region ?_
          refine X.opw X.wN rfl (X.move (v := .int .i64 _) rfl) ?_
          refine X.opw X.wN rfl (X.move (v := .int .i64 _) rfl) ?_
          refine X.opw X.wN rfl (X.add rfl rfl (X.w_i64 (by omega))) ?_
          refine X.opw X.wN rfl (X.mul (c := (((sm + 1) * 64 : Nat) : Int)) rfl rfl (by rw [X.w_i64 (by omega)]; omega)) ?_
          refine X.opw X.wN rfl (X.move rfl) ?_
          refine X.opw X.wN rfl (X.lenSl Tryz.underlying31 rfl) ?_
          refine X.opw X.wN rfl (X.minII rfl rfl) ?_
          refine X.opP X.wN rfl rfl (X.lss rfl rfl) (fun h66 => ?_) (fun h66 => ?_)
          · have hx3 : x < (sm + 1) * 64 ∧ x < n1 := by split at h66 <;> omega
            refine X.opsEnd ?_
            refine X.condT rfl ?_
            refine X.skip ?_
            refine X.seq ?_
            refine X.block ?_
            refine X.seq ?_
            refine X.region ?_
            refine X.opw X.wN rfl (X.move rfl) ?_
            refine X.opw X.wN rfl (X.move (v := .int .i64 _) rfl) ?_
            refine X.opw X.wN rfl (X.idxS (gMx.rd KB_flat).2 Tryz.underlying31 Tryz.sizeOf5 rfl rfl ⟨by omega, by omega⟩) ?_
            refine X.opE X.wN rfl (X.storeM (y := 0) (j := x) Tryz.sizeOf5 gMx (by omega) rfl rfl) ?_
            rintro _ w5 ⟨gM1, hy1, hz1⟩
            refine X.opsEnd ?_
            refine X.seq ?_
            refine X.region ?_
            refine X.opw X.wN rfl (X.move (v := .int .i64 _) rfl) ?_
            refine X.opw X.wN rfl (X.move rfl) ?_
            refine X.opw X.wN rfl (X.nilCk rfl) ?_
            refine X.opw X.wN rfl (X.fldB (j := 1) Tryz.underlying87 rfl rfl Tryz.sizeOf31 rfl) ?_
            refine X.opw X.wN rfl (X.load1B Tryz.isAgg31 ((kF.ext hxI (by first | (intros; (try simp only [] at *); omega) | (intro hh; (try simp only [] at hh); omega) | (intro q h1 h2; (try simp only [] at h1 h2); have := hlt q (by omega); omega) | (intro hh; have hh : _ = _ := hh; subst hh; omega) | (intro q h1 h2; have h2 : q = _ := h2; subst h2; (try simp only [] at h1); omega) | (intro q h1 h2; (try simp only [] at h1 h2); omega) | (intro q h1 h2; have h2 : q = _ := h2; have := hlt q (by (try simp only [] at h1); omega); omega) | (intro q h1 h2; (try simp only [] at h1 h2); rcases h2 with h2 | h2 | h2 <;> first | omega | (subst h2; omega)) | (intro q h1 h2; (try simp only [] at h1 h2); rcases h2 with h2 | h2 | h2 | h2 <;> first | omega | (subst h2; omega)))).ext hy1 (by first | (intros; (try simp only [] at *); omega) | (intro hh; (try simp only [] at hh); omega) | (intro q h1 h2; (try simp only [] at h1 h2); have := hlt q (by omega); omega) | (intro hh; have hh : _ = _ := hh; subst hh; omega) | (intro q h1 h2; have h2 : q = _ := h2; subst h2; (try simp only [] at h1); omega) | (intro q h1 h2; (try simp only [] at h1 h2); omega) | (intro q h1 h2; have h2 : q = _ := h2; have := hlt q (by (try simp only [] at h1); omega); omega) | (intro q h1 h2; (try simp only [] at h1 h2); rcases h2 with h2 | h2 | h2 <;> first | omega | (subst h2; omega)) | (intro q h1 h2; (try simp only [] at h1 h2); rcases h2 with h2 | h2 | h2 | h2 <;> first | omega | (subst h2; omega)))) rfl rfl) ?_
            refine X.opw X.wN rfl (X.lenSl Tryz.underlying31 rfl) ?_
            refine X.opP X.wN rfl rfl (X.lss rfl rfl) (fun h78 => ?_) (fun h78 => ?_)
            · obtain ⟨xf, hxf⟩ := getN x hn2.symm (by omega)
              refine X.opsEnd ?_
              refine X.condT rfl ?_
              refine X.region ?_
              refine X.opw X.wN rfl (X.move rfl) ?_
              refine X.opw X.wN rfl (X.move (v := .int .i64 _) rfl) ?_
              refine X.opw X.wN rfl (X.move rfl) ?_
              refine X.opw X.wN rfl (X.nilCk rfl) ?_
              refine X.opw X.wN rfl (X.fldB (j := 1) Tryz.underlying87 rfl rfl Tryz.sizeOf31 rfl) ?_
              refine X.opw X.wN rfl (X.load1B Tryz.isAgg31 ((kF.ext hxI (by first | (intros; (try simp only [] at *); omega) | (intro hh; (try simp only [] at hh); omega) | (intro q h1 h2; (try simp only [] at h1 h2); have := hlt q (by omega); omega) | (intro hh; have hh : _ = _ := hh; subst hh; omega) | (intro q h1 h2; have h2 : q = _ := h2; subst h2; (try simp only [] at h1); omega) | (intro q h1 h2; (try simp only [] at h1 h2); omega) | (intro q h1 h2; have h2 : q = _ := h2; have := hlt q (by (try simp only [] at h1); omega); omega) | (intro q h1 h2; (try simp only [] at h1 h2); rcases h2 with h2 | h2 | h2 <;> first | omega | (subst h2; omega)) | (intro q h1 h2; (try simp only [] at h1 h2); rcases h2 with h2 | h2 | h2 | h2 <;> first | omega | (subst h2; omega)))).ext hy1 (by first | (intros; (try simp only [] at *); omega) | (intro hh; (try simp only [] at hh); omega) | (intro q h1 h2; (try simp only [] at h1 h2); have := hlt q (by omega); omega) | (intro hh; have hh : _ = _ := hh; subst hh; omega) | (intro q h1 h2; have h2 : q = _ := h2; subst h2; (try simp only [] at h1); omega) | (intro q h1 h2; (try simp only [] at h1 h2); omega) | (intro q h1 h2; have h2 : q = _ := h2; have := hlt q (by (try simp only [] at h1); omega); omega) | (intro q h1 h2; (try simp only [] at h1 h2); rcases h2 with h2 | h2 | h2 <;> first | omega | (subst h2; omega)) | (intro q h1 h2; (try simp only [] at h1 h2); rcases h2 with h2 | h2 | h2 | h2 <;> first | omega | (subst h2; omega)))) rfl rfl) ?_
              refine X.opw X.wN rfl (X.move (v := .int .i64 _) rfl) ?_
              refine X.opw X.wN rfl (X.idxS (((kF2.ext hxI (by intros; omega) (by intro q g1 g2; (try simp only [] at g1 g2); have := hlt q (by omega); first | omega | (have g2 : q = _ := g2; subst g2; omega) | (rcases g2 with g2 | g2 <;> first | omega | (subst g2; omega)))).ext hy1 (by intros; omega) (by intro q g1 g2; (try simp only [] at g1 g2); have := hlt q (by omega); first | omega | (have g2 : q = _ := g2; subst g2; omega) | (rcases g2 with g2 | g2 <;> first | omega | (subst g2; omega)))).rd KB_flat).2 Tryz.underlying31 Tryz.sizeOf5 rfl rfl ⟨by omega, by omega⟩) ?_
              refine X.opw X.wN rfl (X.loadS Tryz.isAgg5 (((kF2.ext hxI (by intros; omega) (by intro q g1 g2; (try simp only [] at g1 g2); have := hlt q (by omega); first | omega | (have g2 : q = _ := g2; subst g2; omega) | (rcases g2 with g2 | g2 <;> first | omega | (subst g2; omega)))).ext hy1 (by intros; omega) (by intro q g1 g2; (try simp only [] at g1 g2); have := hlt q (by omega); first | omega | (have g2 : q = _ := g2; subst g2; omega) | (rcases g2 with g2 | g2 <;> first | omega | (subst g2; omega)))).rd KB_flat).2 hxf rfl (fun _ h => by rw [h.1]; rfl)) ?_
              refine X.opw X.wN rfl (X.idxS (gM1.rd KB_flat).2 Tryz.underlying31 Tryz.sizeOf5 rfl rfl ⟨by omega, by omega⟩) ?_
              refine X.opE X.wN rfl (X.storeM (y := xf) (j := x) Tryz.sizeOf5 gM1 (by rw [List.length_set]; omega) rfl rfl) ?_
              rintro _ w6 ⟨gM2, hy2, hz2⟩
              refine X.opsEnd ?_
              refine X.inBlock ?_
              refine X.region ?_
              refine X.opw X.wN rfl (X.move (v := .int .i64 _) rfl) ?_
              refine X.opw X.wN rfl (X.add (c := ((x + 1 : Nat) : Int)) rfl rfl (by rw [X.w_i64 (by omega)]; omega)) ?_
              refine X.opw X.wN rfl (X.assign (v := .int .i64 _) rfl) ?_
              refine X.opsEnd ?_
              refine hback2 (x + 1) _ _ ⟨rfl, rfl, rfl, rfl, rfl, rfl, rfl, rfl, rfl, trivial⟩ ⟨by omega, by omega, (by rw [zapTo_step f.2 al sm x (by omega) (by omega), show f.2.getD x 0 = xf by rw [List.getD_eq_getElem?_getD, hxf]; rfl, ← List.set_set (a := (0 : UInt8))]; exact gM2), (Ext.andThen (Ext.andThen (Ext.andThen (Ext.refl (fun q => w1.heap.size ≤ q ∧ q < w2.heap.size) _) hxI (by intro q h1 h2; first | exact (h2 : False).elim | exact h2)) hy1 (by intro q h1 h2; first | exact (h2 : False).elim | exact h2)) hy2 (by intro q h1 h2; first | exact (h2 : False).elim | exact h2))⟩ (by omega)
            · refine X.opsEnd ?_
              refine X.condF rfl ?_
              refine X.skip ?_
              refine X.inBlock ?_
              refine X.region ?_
              refine X.opw X.wN rfl (X.move (v := .int .i64 _) rfl) ?_
              refine X.opw X.wN rfl (X.add (c := ((x + 1 : Nat) : Int)) rfl rfl (by rw [X.w_i64 (by omega)]; omega)) ?_
              refine X.opw X.wN rfl (X.assign (v := .int .i64 _) rfl) ?_
              refine X.opsEnd ?_
              refine hback2 (x + 1) _ _ ⟨rfl, rfl, rfl, rfl, rfl, rfl, rfl, rfl, rfl, trivial⟩ ⟨by omega, by omega, (by rw [zapTo_step f.2 al sm x (by omega) (by omega), show f.2.getD x 0 = 0 by rw [List.getD_eq_getElem?_getD, List.getElem?_eq_none (by omega)]; rfl]; exact gM1), (Ext.andThen (Ext.andThen (Ext.refl (fun q => w1.heap.size ≤ q ∧ q < w2.heap.size) _) hxI (by intro q h1 h2; first | exact (h2 : False).elim | exact h2)) hy1 (by intro q h1 h2; first | exact (h2 : False).elim | exact h2))⟩ (by omega)
          · have hx3 : min ((sm + 1) * 64) n1 ≤ x := by split at h66 <;> omega
            refine X.opsEnd ?_
            refine X.condF rfl ?_
            refine X.exit rfl ?_
            refine X.inBlock ?_
            refine X.region ?_
            refine X.opw X.wN rfl (X.add (c := ((i + 1 : Nat) : Int)) rfl rfl (by rw [X.w_i64 (by omega)]; omega)) ?_
            refine X.opw X.wN rfl (X.move (v := .int .i64 _) rfl) ?_
            refine X.opsEnd ?_
            refine hback (i + 1, zap f.2 al sm) _ _ ⟨rfl, rfl, rfl, rfl, rfl, rfl, rfl, trivial⟩ ⟨by (dsimp only); omega, by (dsimp only); rw [zap_len]; exact hal, ?_, (by rw [show ((j1 + (i + 1) : Nat) : Int) = ((j1 + i : Nat) : Int) + 1 by omega]; exact (kB.ext hxI (by first | (intros; (try simp only [] at *); omega) | (intro hh; (try simp only [] at hh); omega) | (intro q h1 h2; (try simp only [] at h1 h2); have := hlt q (by omega); omega) | (intro hh; have hh : _ = _ := hh; subst hh; omega) | (intro q h1 h2; have h2 : q = _ := h2; subst h2; (try simp only [] at h1); omega) | (intro q h1 h2; (try simp only [] at h1 h2); omega) | (intro q h1 h2; have h2 : q = _ := h2; have := hlt q (by (try simp only [] at h1); omega); omega) | (intro q h1 h2; (try simp only [] at h1 h2); rcases h2 with h2 | h2 | h2 <;> first | omega | (subst h2; omega)) | (intro q h1 h2; (try simp only [] at h1 h2); rcases h2 with h2 | h2 | h2 | h2 <;> first | omega | (subst h2; omega))))), (by rw [← zapTo_end f.2 al sm x (by omega)]; exact gMx), (Ext.andThen kx hxI (by intro q h1 h2; first | exact (h2 : False).elim | exact .inr h2))⟩ (by (dsimp only); omega)
            rw [← hzp, drop_cons hxs, zaps, if_neg (by rw [hc]; decide), Int.toNat_natCast]
            rfl
      · refine X.opsEnd ?_
        refine X.seq ?_
        refine X.condF rfl ?_
        refine X.exit rfl ?_
        refine X.seq ?_
        refine X.seq ?_
        refine X.region ?_
        refine X.opw X.wN rfl (X.move (v := .int .i64 _) rfl) ?_
        refine X.opw X.wN rfl (X.move rfl) ?_
        refine X.opw X.wN rfl (X.lenSl Tryz.underlying31 rfl) ?_
        refine X.opP X.wN rfl rfl (X.gtr rfl rfl) (fun h93 => ?_) (fun h93 => ?_)
        · exact absurd h93 (by omega)
        · refine X.opsEnd ?_
          refine X.condF rfl ?_
          refine X.skip ?_
          refine X.seq ?_
          refine X.region ?_
          refine X.opw X.wN rfl (X.move rfl) ?_
          refine X.opw X.wN rfl (X.move (v := .int .i64 _) rfl) ?_
          refine X.opw X.wN rfl (X.move (v := .int .i64 _) rfl) ?_
          refine X.opw X.wN rfl (X.cutHMr Tryz.underlying31 Tryz.sizeOf5 rfl rfl rfl (by omega)) ?_
          refine X.opw X.wN rfl (X.assign rfl) ?_
          refine X.opsEnd ?_
          refine X.ret1 Tryz.func53 Tryz.results53 rfl ?_
          have hall : al = zaps kp f.2 j1 (s0.spots k) f.1 := by
            have : (s0.spots k).drop i = [] := List.drop_of_length_le (by omega)
            rw [this] at hzp; exact hzp
          have hsz : sizeK sz j2 f = n1 := by rw [sizeK, ← hn1, ← hn2]; rw [if_pos ⟨h32, hbit⟩]
          have hcn : cntK f = 1 := by rw [cntK, ← hn1, ← hn2]; rw [if_pos h32]
          have hieq : i = (s0.spots k).length := by omega
          have hkb : keptB kp j1 (s0.spots k) f n1 = (al).take n1 := by
            simp only [keptB]
            rw [← hall, hal]
            rw [List.take_append_of_le_length (by omega)]
          rw [hsz, hcn, hkb]
          have hB2f := (gZ.ext hxO (by first | (intros; (try simp only [] at *); omega) | (intro hh; (try simp only [] at hh); omega) | (intro q h1 h2; (try simp only [] at h1 h2); have := hlt q (by omega); omega) | (intro hh; have hh : _ = _ := hh; subst hh; omega) | (intro q h1 h2; have h2 : q = _ := h2; subst h2; (try simp only [] at h1); omega) | (intro q h1 h2; (try simp only [] at h1 h2); omega) | (intro q h1 h2; have h2 : q = _ := h2; have := hlt q (by (try simp only [] at h1); omega); omega) | (intro q h1 h2; (try simp only [] at h1 h2); rcases h2 with h2 | h2 | h2 <;> first | omega | (subst h2; omega)) | (intro q h1 h2; (try simp only [] at h1 h2); rcases h2 with h2 | h2 | h2 | h2 <;> first | omega | (subst h2; omega))))
          have hR := Row.of (gMa)
          refine ⟨_, rfl, ?_, (by rw [← hieq]; exact hBs), (by first | exact hB2f | (rw [Int.natCast_add]; exact hB2f)), (Ext.andThen gx0 hxO (by intro q h1 h2; first | exact (h2 : False).elim | ((try simp only [] at h2); omega)))⟩
          exact (hR.cap n1 n1 (by omega) (Nat.le_refl _) (by omega)).mono (fun q hq hS => ⟨by (try simp only [] at hS); omega, hq⟩)
    · 
      refine X.skip ?_
      refine X.seq ?_
      refine X.region ?_
      refine X.opw X.wN rfl (X.move rfl) ?_
      refine X.opw X.wN rfl (X.nilCk rfl) ?_
      refine X.opw X.wN rfl (X.fldB (j := 0) Tryz.underlying87 rfl rfl Tryz.sizeOf31 rfl) ?_
      refine X.opw X.wN rfl (X.load1B Tryz.isAgg31 (hBf.ext hx1 (by first | (intros; (try simp only [] at *); omega) | (intro hh; (try simp only [] at hh); omega) | (intro q h1 h2; (try simp only [] at h1 h2); have := hlt q (by omega); omega) | (intro hh; have hh : _ = _ := hh; subst hh; omega) | (intro q h1 h2; have h2 : q = _ := h2; subst h2; (try simp only [] at h1); omega) | (intro q h1 h2; (try simp only [] at h1 h2); omega) | (intro q h1 h2; have h2 : q = _ := h2; have := hlt q (by (try simp only [] at h1); omega); omega) | (intro q h1 h2; (try simp only [] at h1 h2); rcases h2 with h2 | h2 | h2 <;> first | omega | (subst h2; omega)) | (intro q h1 h2; (try simp only [] at h1 h2); rcases h2 with h2 | h2 | h2 | h2 <;> first | omega | (subst h2; omega)))) rfl rfl) ?_
      refine X.opE X.wN rfl (X.callE (CloneB_c _ (((hM1.ext hx1 (by intros; omega) (by first | (intros; (try simp only [] at *); omega) | (intro hh; (try simp only [] at hh); omega) | (intro q h1 h2; (try simp only [] at h1 h2); have := hlt q (by omega); omega) | (intro hh; have hh : _ = _ := hh; subst hh; omega) | (intro q h1 h2; have h2 : q = _ := h2; subst h2; (try simp only [] at h1); omega) | (intro q h1 h2; (try simp only [] at h1 h2); omega) | (intro q h1 h2; have h2 : q = _ := h2; have := hlt q (by (try simp only [] at h1); omega); omega) | (intro q h1 h2; (try simp only [] at h1 h2); rcases h2 with h2 | h2 | h2 <;> first | omega | (subst h2; omega)) | (intro q h1 h2; (try simp only [] at h1 h2); rcases h2 with h2 | h2 | h2 | h2 <;> first | omega | (subst h2; omega))))).rd KB_flat).2 (by omega)) Tryz.call54 rfl rfl) ?_
      rintro _ w7 ⟨Ac, cc, rfl, hcc, gMc, hk7⟩
      have hk7' := hk7.size
      refine X.opw X.wN rfl (X.assign rfl) ?_
      refine X.opsEnd ?_
      refine X.seq ?_
      refine X.seq ?_
      refine X.region ?_
      refine X.opw X.wN rfl (X.move rfl) ?_
      refine X.opw X.wN rfl (X.move (v := .int .i64 _) rfl) ?_
      refine X.opE X.wN rfl (X.callE (spots_c k _ (h.ext (Ext.andThen (Ext.andThen (Ext.refl (fun q => q = bz) _) hx1 (by intro q h1 h2; first | exact (h2 : False).elim | exact h2)) hk7 (by intro q h1 h2; first | exact (h2 : False).elim | exact h2)) (by intro q h1 h2; have h2 : q = _ := h2; subst h2; exact h1 hc2)) hok hk0 hk1) Tryz.call50 rfl rfl) ?_
      rintro _ w8 ⟨As, cs, rfl, hcs, hMs, hk8⟩
      have hk8' := hk8.size
      refine X.opw X.wN rfl (X.lenSl Tryz.underlying95 rfl) ?_
      refine X.opw X.wN rfl (X.move rfl) ?_
      refine X.opsEnd ?_
      refine X.block ?_
      obtain ⟨_, _, e9, _, gS0⟩ := hMs.slF KI_flat w7.heap.size (fun q hq => hq.1)
      injection e9 with e91 e92 e93
      subst e91 e93
      clear e92
      have hspl : (s0.spots k).length ≤ (n1 + 63) / 64 := by rw [DS.spots, hfl1]; exact spotL_len _ _ _
      have gF := ((hBf.ext hx1 (by first | (intros; (try simp only [] at *); omega) | (intro hh; (try simp only [] at hh); omega) | (intro q h1 h2; (try simp only [] at h1 h2); have := hlt q (by omega); omega) | (intro hh; have hh : _ = _ := hh; subst hh; omega) | (intro q h1 h2; have h2 : q = _ := h2; subst h2; (try simp only [] at h1); omega) | (intro q h1 h2; (try simp only [] at h1 h2); omega) | (intro q h1 h2; have h2 : q = _ := h2; have := hlt q (by (try simp only [] at h1); omega); omega) | (intro q h1 h2; (try simp only [] at h1 h2); rcases h2 with h2 | h2 | h2 <;> first | omega | (subst h2; omega)) | (intro q h1 h2; (try simp only [] at h1 h2); rcases h2 with h2 | h2 | h2 | h2 <;> first | omega | (subst h2; omega)))).keep (hk7.trans hk8))
      have gC := (gMc.keep hk8)
      have gB := ((hB1.ext hx1 (by first | (intros; (try simp only [] at *); omega) | (intro hh; (try simp only [] at hh); omega) | (intro q h1 h2; (try simp only [] at h1 h2); have := hlt q (by omega); omega) | (intro hh; have hh : _ = _ := hh; subst hh; omega) | (intro q h1 h2; have h2 : q = _ := h2; subst h2; (try simp only [] at h1); omega) | (intro q h1 h2; (try simp only [] at h1 h2); omega) | (intro q h1 h2; have h2 : q = _ := h2; have := hlt q (by (try simp only [] at h1); omega); omega) | (intro q h1 h2; (try simp only [] at h1 h2); rcases h2 with h2 | h2 | h2 <;> first | omega | (subst h2; omega)) | (intro q h1 h2; (try simp only [] at h1 h2); rcases h2 with h2 | h2 | h2 | h2 <;> first | omega | (subst h2; omega)))).keep (hk7.trans hk8))
      have gZ := (gz1.keep (hk7.trans hk8))
      have gS1 := (((hS1.ext hx1 (by intro q g1 g2 g3; (try simp only [] at g3); first | omega | (have g3 : q = _ := g3; omega))).keep hk7).keep hk8)
      have gx0 := (Ext.andThen (Ext.andThen (Ext.andThen (Ext.refl (fun q => q = bs ∨ q = bz) _) hx1 (by intro q h1 h2; first | exact (h2 : False).elim | exact .inr h2)) hk7 (by intro q h1 h2; first | exact (h2 : False).elim | exact .inr h2)) hk8 (by intro q h1 h2; first | exact (h2 : False).elim | exact .inr h2))
      have gxs := gx0.size
      have gF2 := (((hM2.ext hx1 (by intros; omega) (by first | (intros; (try simp only [] at *); omega) | (intro hh; (try simp only [] at hh); omega) | (intro q h1 h2; (try simp only [] at h1 h2); have := hlt q (by omega); omega) | (intro hh; have hh : _ = _ := hh; subst hh; omega) | (intro q h1 h2; have h2 : q = _ := h2; subst h2; (try simp only [] at h1); omega) | (intro q h1 h2; (try simp only [] at h1 h2); omega) | (intro q h1 h2; have h2 : q = _ := h2; have := hlt q (by (try simp only [] at h1); omega); omega) | (intro q h1 h2; (try simp only [] at h1 h2); rcases h2 with h2 | h2 | h2 <;> first | omega | (subst h2; omega)) | (intro q h1 h2; (try simp only [] at h1 h2); rcases h2 with h2 | h2 | h2 | h2 <;> first | omega | (subst h2; omega)))).keep hk7).keep hk8)
      refine X.loopL (σ := Nat × List UInt8) (fun s => [(2, ptrV bs), (9, ptrV pf), (10, .int .i64 (n2 : Int)), (11, .slice Ac n1 cc), (49, .slice As (s0.spots k).length cs), (50, .int .i64 ((s0.spots k).length : Int)), (51, .int .i64 (s.1 : Int))]) (fun s w' => s.1 ≤ (s0.spots k).length ∧ s.2.length = n1 ∧ zaps kp f.2 (j1 + s.1) ((s0.spots k).drop s.1) s.2 = zaps kp f.2 j1 (s0.spots k) f.1 ∧ Blk w' bs (kpL Aq1 q1 r1 ((j1 + s.1 : Nat) : Int)) 103 ∧ Mine KB 5 (fun q => w1.heap.size ≤ q ∧ q < w7.heap.size) 0 0 w' (.slice Ac n1 cc) s.2 ∧ Ext (fun q => q = bs ∨ (w1.heap.size ≤ q ∧ q < w7.heap.size)) w8 w') (fun s => (s0.spots k).length - s.1) (0, f.1) ⟨rfl, rfl, rfl, rfl, rfl, rfl, rfl, trivial⟩ ⟨Nat.zero_le _, hn1.symm, rfl, gB, gC, Ext.refl _ _⟩ ?_
      rintro ⟨i, al⟩ e wi ⟨hi1, hal, hzp, hBs, gMa, hxO⟩ hback
      dsimp only at hi1 hal hzp hBs gMa ⊢
      have hxO' := hxO.size
      refine X.seq ?_
      refine X.region ?_
      refine X.opP X.wN rfl rfl (X.lss rfl rfl) (fun h52 => ?_) (fun h52 => ?_)
      · obtain ⟨xs1, hxs⟩ := getN i (show (s0.spots k).length = (s0.spots k).length from rfl) (by omega)
        obtain ⟨sm, rfl, hsm⟩ := spotL_at hxs
        rw [hfl1, secs] at hsm
        refine X.opsEnd ?_
        refine X.seq ?_
        refine X.condT rfl ?_
        refine X.skip ?_
        refine X.seq ?_
        refine X.block ?_
        refine X.seq ?_
        refine X.region ?_
        refine X.opw X.wN rfl (X.idxS (gS0.ext hxO (by first | (intros; (try simp only [] at *); omega) | (intro hh; (try simp only [] at hh); omega) | (intro q h1 h2; (try simp only [] at h1 h2); have := hlt q (by omega); omega) | (intro hh; have hh : _ = _ := hh; subst hh; omega) | (intro q h1 h2; have h2 : q = _ := h2; subst h2; (try simp only [] at h1); omega) | (intro q h1 h2; (try simp only [] at h1 h2); omega) | (intro q h1 h2; have h2 : q = _ := h2; have := hlt q (by (try simp only [] at h1); omega); omega) | (intro q h1 h2; (try simp only [] at h1 h2); rcases h2 with h2 | h2 | h2 <;> first | omega | (subst h2; omega)) | (intro q h1 h2; (try simp only [] at h1 h2); rcases h2 with h2 | h2 | h2 | h2 <;> first | omega | (subst h2; omega)))) Tryz.underlying95 Tryz.sizeOf3 rfl rfl ⟨by omega, by omega⟩) ?_
        refine X.opw X.wN rfl (X.loadS Tryz.isAgg3 (gS0.ext hxO (by first | (intros; (try simp only [] at *); omega) | (intro hh; (try simp only [] at hh); omega) | (intro q h1 h2; (try simp only [] at h1 h2); have := hlt q (by omega); omega) | (intro hh; have hh : _ = _ := hh; subst hh; omega) | (intro q h1 h2; have h2 : q = _ := h2; subst h2; (try simp only [] at h1); omega) | (intro q h1 h2; (try simp only [] at h1 h2); omega) | (intro q h1 h2; have h2 : q = _ := h2; have := hlt q (by (try simp only [] at h1); omega); omega) | (intro q h1 h2; (try simp only [] at h1 h2); rcases h2 with h2 | h2 | h2 <;> first | omega | (subst h2; omega)) | (intro q h1 h2; (try simp only [] at h1 h2); rcases h2 with h2 | h2 | h2 | h2 <;> first | omega | (subst h2; omega)))) hxs rfl (fun _ h => by rw [h.1]; rfl)) ?_
        refine X.opw X.wN rfl (X.assign (v := .int .i64 _) rfl) ?_
        refine X.opsEnd ?_
        refine X.seq ?_
        refine X.seq ?_
        refine X.region ?_
        refine X.opw X.wN rfl (X.move rfl) ?_
        refine X.opE X.wN rfl (X.callE (next_c (j1 + i) _ hBs (gS1.ext hxO (by intro q g1 g2 g3; (try simp only [] at g3); first | omega | (have g3 : q = _ := g3; omega))) hbs (by omega)) Tryz.call73 rfl rfl) ?_
        rintro _ w9 ⟨rfl, gs9, hx9⟩
        have hx9' := hx9.size
        refine X.opsEnd ?_
        refine X.condB rfl (fun hc => ?_) (fun hc => ?_)
        · refine X.exit rfl ?_
          refine X.region ?_
          refine X.opw X.wN rfl (X.add (c := ((i + 1 : Nat) : Int)) rfl rfl (by rw [X.w_i64 (by omega)]; omega)) ?_
          refine X.opw X.wN rfl (X.move (v := .int .i64 _) rfl) ?_
          refine X.opsEnd ?_
          refine hback (i + 1, al) _ _ ⟨rfl, rfl, rfl, rfl, rfl, rfl, rfl, trivial⟩ ⟨by (dsimp only); omega, hal, ?_, (by rw [show ((j1 + (i + 1) : Nat) : Int) = ((j1 + i : Nat) : Int) + 1 by omega]; exact gs9), (gMa.ext hx9 (by first | (intros; (try simp only [] at *); omega) | (intro hh; (try simp only [] at hh); omega) | (intro q h1 h2; (try simp only [] at h1 h2); have := hlt q (by omega); omega) | (intro hh; have hh : _ = _ := hh; subst hh; omega) | (intro q h1 h2; have h2 : q = _ := h2; subst h2; (try simp only [] at h1); omega) | (intro q h1 h2; (try simp only [] at h1 h2); omega) | (intro q h1 h2; have h2 : q = _ := h2; have := hlt q (by (try simp only [] at h1); omega); omega) | (intro q h1 h2; (try simp only [] at h1 h2); rcases h2 with h2 | h2 | h2 <;> first | omega | (subst h2; omega)) | (intro q h1 h2; (try simp only [] at h1 h2); rcases h2 with h2 | h2 | h2 | h2 <;> first | omega | (subst h2; omega))) (by first | (intros; (try simp only [] at *); omega) | (intro hh; (try simp only [] at hh); omega) | (intro q h1 h2; (try simp only [] at h1 h2); have := hlt q (by omega); omega) | (intro hh; have hh : _ = _ := hh; subst hh; omega) | (intro q h1 h2; have h2 : q = _ := h2; subst h2; (try simp only [] at h1); omega) | (intro q h1 h2; (try simp only [] at h1 h2); omega) | (intro q h1 h2; have h2 : q = _ := h2; have := hlt q (by (try simp only [] at h1); omega); omega) | (intro q h1 h2; (try simp only [] at h1 h2); rcases h2 with h2 | h2 | h2 <;> first | omega | (subst h2; omega)) | (intro q h1 h2; (try simp only [] at h1 h2); rcases h2 with h2 | h2 | h2 | h2 <;> first | omega | (subst h2; omega)))), (Ext.andThen (Ext.andThen (Ext.refl (fun q => q = bs ∨ (w1.heap.size ≤ q ∧ q < w7.heap.size)) _) hxO (by intro q h1 h2; first | exact (h2 : False).elim | exact h2 | exact .inl h2)) hx9 (by intro q h1 h2; first | exact (h2 : False).elim | exact h2 | exact .inl h2))⟩ (by (dsimp only); omega)
          rw [← hzp, drop_cons hxs, zaps, if_pos hc]
          rfl
        · refine X.skip ?_
          refine X.seq ?_
          refine X.region ?_
          refine X.opw X.wN rfl (X.move (v := .int .i64 _) rfl) ?_
          refine X.opw X.wN rfl (X.mul (c := ((sm * 64 : Nat) : Int)) rfl rfl (by rw [X.w_i64 (by omega)]; omega)) ?_
          refine X.opw X.wN rfl (X.assign (v := .int .i64 _) rfl) ?_
          refine X.opsEnd ?_
          refine X.block ?_
          have kF := ((gF.ext hxO (by first | (intros; (try simp only [] at *); omega) | (intro hh; (try simp only [] at hh); omega) | (intro q h1 h2; (try simp only [] at h1 h2); have := hlt q (by omega); omega) | (intro hh; have hh : _ = _ := hh; subst hh; omega) | (intro q h1 h2; have h2 : q = _ := h2; subst h2; (try simp only [] at h1); omega) | (intro q h1 h2; (try simp only [] at h1 h2); omega) | (intro q h1 h2; have h2 : q = _ := h2; have := hlt q (by (try simp only [] at h1); omega); omega) | (intro q h1 h2; (try simp only [] at h1 h2); rcases h2 with h2 | h2 | h2 <;> first | omega | (subst h2; omega)) | (intro q h1 h2; (try simp only [] at h1 h2); rcases h2 with h2 | h2 | h2 | h2 <;> first | omega | (subst h2; omega)))).ext hx9 (by first | (intros; (try simp only [] at *); omega) | (intro hh; (try simp only [] at hh); omega) | (intro q h1 h2; (try simp only [] at h1 h2); have := hlt q (by omega); omega) | (intro hh; have hh : _ = _ := hh; subst hh; omega) | (intro q h1 h2; have h2 : q = _ := h2; subst h2; (try simp only [] at h1); omega) | (intro q h1 h2; (try simp only [] at h1 h2); omega) | (intro q h1 h2; have h2 : q = _ := h2; have := hlt q (by (try simp only [] at h1); omega); omega) | (intro q h1 h2; (try simp only [] at h1 h2); rcases h2 with h2 | h2 | h2 <;> first | omega | (subst h2; omega)) | (intro q h1 h2; (try simp only [] at h1 h2); rcases h2 with h2 | h2 | h2 | h2 <;> first | omega | (subst h2; omega))))
          have kF2 := ((gF2.ext hxO (by intros; omega) (by intro q g1 g2; (try simp only [] at g1 g2); have := hlt q (by omega); first | omega | (have g2 : q = _ := g2; subst g2; omega) | (rcases g2 with g2 | g2 <;> first | omega | (subst g2; omega)))).ext hx9 (by intros; omega) (by intro q g1 g2; (try simp only [] at g1 g2); have := hlt q (by omega); first | omega | (have g2 : q = _ := g2; subst g2; omega) | (rcases g2 with g2 | g2 <;> first | omega | (subst g2; omega))))
          have kM := (gMa.ext hx9 (by first | (intros; (try simp only [] at *); omega) | (intro hh; (try simp only [] at hh); omega) | (intro q h1 h2; (try simp only [] at h1 h2); have := hlt q (by omega); omega) | (intro hh; have hh : _ = _ := hh; subst hh; omega) | (intro q h1 h2; have h2 : q = _ := h2; subst h2; (try simp only [] at h1); omega) | (intro q h1 h2; (try simp only [] at h1 h2); omega) | (intro q h1 h2; have h2 : q = _ := h2; have := hlt q (by (try simp only [] at h1); omega); omega) | (intro q h1 h2; (try simp only [] at h1 h2); rcases h2 with h2 | h2 | h2 <;> first | omega | (subst h2; omega)) | (intro q h1 h2; (try simp only [] at h1 h2); rcases h2 with h2 | h2 | h2 | h2 <;> first | omega | (subst h2; omega))) (by first | (intros; (try simp only [] at *); omega) | (intro hh; (try simp only [] at hh); omega) | (intro q h1 h2; (try simp only [] at h1 h2); have := hlt q (by omega); omega) | (intro hh; have hh : _ = _ := hh; subst hh; omega) | (intro q h1 h2; have h2 : q = _ := h2; subst h2; (try simp only [] at h1); omega) | (intro q h1 h2; (try simp only [] at h1 h2); omega) | (intro q h1 h2; have h2 : q = _ := h2; have := hlt q (by (try simp only [] at h1); omega); omega) | (intro q h1 h2; (try simp only [] at h1 h2); rcases h2 with h2 | h2 | h2 <;> first | omega | (subst h2; omega)) | (intro q h1 h2; (try simp only [] at h1 h2); rcases h2 with h2 | h2 | h2 | h2 <;> first | omega | (subst h2; omega))))
          have kB := gs9
          have kS := ((gS0.ext hxO (by first | (intros; (try simp only [] at *); omega) | (intro hh; (try simp only [] at hh); omega) | (intro q h1 h2; (try simp only [] at h1 h2); have := hlt q (by omega); omega) | (intro hh; have hh : _ = _ := hh; subst hh; omega) | (intro q h1 h2; have h2 : q = _ := h2; subst h2; (try simp only [] at h1); omega) | (intro q h1 h2; (try simp only [] at h1 h2); omega) | (intro q h1 h2; have h2 : q = _ := h2; have := hlt q (by (try simp only [] at h1); omega); omega) | (intro q h1 h2; (try simp only [] at h1 h2); rcases h2 with h2 | h2 | h2 <;> first | omega | (subst h2; omega)) | (intro q h1 h2; (try simp only [] at h1 h2); rcases h2 with h2 | h2 | h2 | h2 <;> first | omega | (subst h2; omega)))).ext hx9 (by first | (intros; (try simp only [] at *); omega) | (intro hh; (try simp only [] at hh); omega) | (intro q h1 h2; (try simp only [] at h1 h2); have := hlt q (by omega); omega) | (intro hh; have hh : _ = _ := hh; subst hh; omega) | (intro q h1 h2; have h2 : q = _ := h2; subst h2; (try simp only [] at h1); omega) | (intro q h1 h2; (try simp only [] at h1 h2); omega) | (intro q h1 h2; have h2 : q = _ := h2; have := hlt q (by (try simp only [] at h1); omega); omega) | (intro q h1 h2; (try simp only [] at h1 h2); rcases h2 with h2 | h2 | h2 <;> first | omega | (subst h2; omega)) | (intro q h1 h2; (try simp only [] at h1 h2); rcases h2 with h2 | h2 | h2 | h2 <;> first | omega | (subst h2; omega))))
          have kx := (Ext.andThen (Ext.andThen (Ext.refl (fun q => q = bs ∨ (w1.heap.size ≤ q ∧ q < w7.heap.size)) _) hxO (by intro q h1 h2; first | exact (h2 : False).elim | exact h2 | exact .inl h2 | exact .inr h2)) hx9 (by intro q h1 h2; first | exact (h2 : False).elim | exact h2 | exact .inl h2 | exact .inr h2))
          have kxs := kx.size
          refine X.loopL (σ := Nat) (fun s => [(2, ptrV bs), (9, ptrV pf), (10, .int .i64 (n2 : Int)), (11, .slice Ac n1 cc), (13, .int .i64 (sm : Int)), (14, .int .i64 (s : Int)), (49, .slice As (s0.spots k).length cs), (50, .int .i64 ((s0.spots k).length : Int)), (51, .int .i64 (i : Int))]) (fun s w' => sm * 64 ≤ s ∧ s ≤ min ((sm + 1) * 64) n1 ∧ Mine KB 5 (fun q => w1.heap.size ≤ q ∧ q < w7.heap.size) 0 0 w' (.slice Ac n1 cc) (zapTo f.2 al sm s) ∧ Ext (fun q => w1.heap.size ≤ q ∧ q < w7.heap.size) w9 w') (fun s => n1 - s) (sm * 64) ⟨rfl, rfl, rfl, rfl, rfl, rfl, rfl, rfl, rfl, trivial⟩ ⟨Nat.le_refl _, by omega, by rw [zapTo_start]; exact kM, Ext.refl _ _⟩ ?_
          rintro x e wx ⟨hx1, hx2, gMx, hxI⟩ hback2
          have hxI' := hxI.size
          have hzl := zapTo_len f.2 al sm x
          refine X.seq ?_
          refine X.seq ?_
          refine X.region ?_
          refine X.opw X.wN rfl (X.move (v := .int .i64 _) rfl) ?_
          refine X.opw X.wN rfl (X.move (v := .int .i64 _) rfl) ?_
          refine X.opw X.wN rfl (X.add rfl rfl (X.w_i64 (by omega))) ?_
          refine X.opw X.wN rfl (X.mul (c := (((sm + 1) * 64 : Nat) : Int)) rfl rfl (by rw [X.w_i64 (by omega)]; omega)) ?_
          refine X.opw X.wN rfl (X.move rfl) ?_
          refine X.opw X.wN rfl (X.lenSl Tryz.underlying31 rfl) ?_
          refine X.opw X.wN rfl (X.minII rfl rfl) ?_
          refine X.opP X.wN rfl rfl (X.lss rfl rfl) (fun h66 => ?_) (fun h66 => ?_)
          · have hx3 : x < (sm + 1) * 64 ∧ x < n1 := by split at h66 <;> omega
            refine X.opsEnd ?_
            refine X.condT rfl ?_
            refine X.skip ?_
            refine X.seq ?_
            refine X.block ?_
            refine X.seq ?_
            refine X.region ?_
            refine X.opw X.wN rfl (X.move rfl) ?_
            refine X.opw X.wN rfl (X.move (v := .int .i64 _) rfl) ?_
            refine X.opw X.wN rfl (X.idxS (gMx.rd KB_flat).2 Tryz.underlying31 Tryz.sizeOf5 rfl rfl ⟨by omega, by omega⟩) ?_
            refine X.opE X.wN rfl (X.storeM (y := 0) (j := x) Tryz.sizeOf5 gMx (by omega) rfl rfl) ?_
            rintro _ w10 ⟨gM1, hy1, hz1⟩
            refine X.opsEnd ?_
            refine X.seq ?_
            refine X.region ?_
            refine X.opw X.wN rfl (X.move (v := .int .i64 _) rfl) ?_
            refine X.opw X.wN rfl (X.move rfl) ?_
            refine X.opw X.wN rfl (X.nilCk rfl) ?_
            refine X.opw X.wN rfl (X.fldB (j := 1) Tryz.underlying87 rfl rfl Tryz.sizeOf31 rfl) ?_
            refine X.opw X.wN rfl (X.load1B Tryz.isAgg31 ((kF.ext hxI (by first | (intros; (try simp only [] at *); omega) | (intro hh; (try simp only [] at hh); omega) | (intro q h1 h2; (try simp only [] at h1 h2); have := hlt q (by omega); omega) | (intro hh; have hh : _ = _ := hh; subst hh; omega) | (intro q h1 h2; have h2 : q = _ := h2; subst h2; (try simp only [] at h1); omega) | (intro q h1 h2; (try simp only [] at h1 h2); omega) | (intro q h1 h2; have h2 : q = _ := h2; have := hlt q (by (try simp only [] at h1); omega); omega) | (intro q h1 h2; (try simp only [] at h1 h2); rcases h2 with h2 | h2 | h2 <;> first | omega | (subst h2; omega)) | (intro q h1 h2; (try simp only [] at h1 h2); rcases h2 with h2 | h2 | h2 | h2 <;> first | omega | (subst h2; omega)))).ext hy1 (by first | (intros; (try simp only [] at *); omega) | (intro hh; (try simp only [] at hh); omega) | (intro q h1 h2; (try simp only [] at h1 h2); have := hlt q (by omega); omega) | (intro hh; have hh : _ = _ := hh; subst hh; omega) | (intro q h1 h2; have h2 : q = _ := h2; subst h2; (try simp only [] at h1); omega) | (intro q h1 h2; (try simp only [] at h1 h2); omega) | (intro q h1 h2; have h2 : q = _ := h2; have := hlt q (by (try simp only [] at h1); omega); omega) | (intro q h1 h2; (try simp only [] at h1 h2); rcases h2 with h2 | h2 | h2 <;> first | omega | (subst h2; omega)) | (intro q h1 h2; (try simp only [] at h1 h2); rcases h2 with h2 | h2 | h2 | h2 <;> first | omega | (subst h2; omega)))) rfl rfl) ?_
            refine X.opw X.wN rfl (X.lenSl Tryz.underlying31 rfl) ?_
            refine X.opP X.wN rfl rfl (X.lss rfl rfl) (fun h78 => ?_) (fun h78 => ?_)
            · obtain ⟨xf, hxf⟩ := getN x hn2.symm (by omega)
              refine X.opsEnd ?_
              refine X.condT rfl ?_
              refine X.region ?_
              refine X.opw X.wN rfl (X.move rfl) ?_
              refine X.opw X.wN rfl (X.move (v := .int .i64 _) rfl) ?_
              refine X.opw X.wN rfl (X.move rfl) ?_
              refine X.opw X.wN rfl (X.nilCk rfl) ?_
              refine X.opw X.wN rfl (X.fldB (j := 1) Tryz.underlying87 rfl rfl Tryz.sizeOf31 rfl) ?_
              refine X.opw X.wN rfl (X.load1B Tryz.isAgg31 ((kF.ext hxI (by first | (intros; (try simp only [] at *); omega) | (intro hh; (try simp only [] at hh); omega) | (intro q h1 h2; (try simp only [] at h1 h2); have := hlt q (by omega); omega) | (intro hh; have hh : _ = _ := hh; subst hh; omega) | (intro q h1 h2; have h2 : q = _ := h2; subst h2; (try simp only [] at h1); omega) | (intro q h1 h2; (try simp only [] at h1 h2); omega) | (intro q h1 h2; have h2 : q = _ := h2; have := hlt q (by (try simp only [] at h1); omega); omega) | (intro q h1 h2; (try simp only [] at h1 h2); rcases h2 with h2 | h2 | h2 <;> first | omega | (subst h2; omega)) | (intro q h1 h2; (try simp only [] at h1 h2); rcases h2 with h2 | h2 | h2 | h2 <;> first | omega | (subst h2; omega)))).ext hy1 (by first | (intros; (try simp only [] at *); omega) | (intro hh; (try simp only [] at hh); omega) | (intro q h1 h2; (try simp only [] at h1 h2); have := hlt q (by omega); omega) | (intro hh; have hh : _ = _ := hh; subst hh; omega) | (intro q h1 h2; have h2 : q = _ := h2; subst h2; (try simp only [] at h1); omega) | (intro q h1 h2; (try simp only [] at h1 h2); omega) | (intro q h1 h2; have h2 : q = _ := h2; have := hlt q (by (try simp only [] at h1); omega); omega) | (intro q h1 h2; (try simp only [] at h1 h2); rcases h2 with h2 | h2 | h2 <;> first | omega | (subst h2; omega)) | (intro q h1 h2; (try simp only [] at h1 h2); rcases h2 with h2 | h2 | h2 | h2 <;> first | omega | (subst h2; omega)))) rfl rfl) ?_
              refine X.opw X.wN rfl (X.move (v := .int .i64 _) rfl) ?_
              refine X.opw X.wN rfl (X.idxS (((kF2.ext hxI (by intros; omega) (by intro q g1 g2; (try simp only [] at g1 g2); have := hlt q (by omega); first | omega | (have g2 : q = _ := g2; subst g2; omega) | (rcases g2 with g2 | g2 <;> first | omega | (subst g2; omega)))).ext hy1 (by intros; omega) (by intro q g1 g2; (try simp only [] at g1 g2); have := hlt q (by omega); first | omega | (have g2 : q = _ := g2; subst g2; omega) | (rcases g2 with g2 | g2 <;> first | omega | (subst g2; omega)))).rd KB_flat).2 Tryz.underlying31 Tryz.sizeOf5 rfl rfl ⟨by omega, by omega⟩) ?_
              refine X.opw X.wN rfl (X.loadS Tryz.isAgg5 (((kF2.ext hxI (by intros; omega) (by intro q g1 g2; (try simp only [] at g1 g2); have := hlt q (by omega); first | omega | (have g2 : q = _ := g2; subst g2; omega) | (rcases g2 with g2 | g2 <;> first | omega | (subst g2; omega)))).ext hy1 (by intros; omega) (by intro q g1 g2; (try simp only [] at g1 g2); have := hlt q (by omega); first | omega | (have g2 : q = _ := g2; subst g2; omega) | (rcases g2 with g2 | g2 <;> first | omega | (subst g2; omega)))).rd KB_flat).2 hxf rfl (fun _ h => by rw [h.1]; rfl)) ?_
              refine X.opw X.wN rfl (X.idxS (gM1.rd KB_flat).2 Tryz.underlying31 Tryz.sizeOf5 rfl rfl ⟨by omega, by omega⟩) ?_
              refine X.opE X.wN rfl (X.storeM (y := xf) (j := x) Tryz.sizeOf5 gM1 (by rw [List.length_set]; omega) rfl rfl) ?_
              rintro _ w11 ⟨gM2, hy2, hz2⟩
              refine X.opsEnd ?_
              refine X.inBlock ?_
              refine X.region ?_
              refine X.opw X.wN rfl (X.move (v := .int .i64 _) rfl) ?_
              refine X.opw X.wN rfl (X.add (c := ((x + 1 : Nat) : Int)) rfl rfl (by rw [X.w_i64 (by omega)]; omega)) ?_
              refine X.opw X.wN rfl (X.assign (v := .int .i64 _) rfl) ?_
              refine X.opsEnd ?_
              refine hback2 (x + 1) _ _ ⟨rfl, rfl, rfl, rfl, rfl, rfl, rfl, rfl, rfl, trivial⟩ ⟨by omega, by omega, (by rw [zapTo_step f.2 al sm x (by omega) (by omega), show f.2.getD x 0 = xf by rw [List.getD_eq_getElem?_getD, hxf]; rfl, ← List.set_set (a := (0 : UInt8))]; exact gM2), (Ext.andThen (Ext.andThen (Ext.andThen (Ext.refl (fun q => w1.heap.size ≤ q ∧ q < w7.heap.size) _) hxI (by intro q h1 h2; first | exact (h2 : False).elim | exact h2)) hy1 (by intro q h1 h2; first | exact (h2 : False).elim | exact h2)) hy2 (by intro q h1 h2; first | exact (h2 : False).elim | exact h2))⟩ (by omega)
            · refine X.opsEnd ?_
              refine X.condF rfl ?_
              refine X.skip ?_
              refine X.inBlock ?_
              refine X.region ?_
              refine X.opw X.wN rfl (X.move (v := .int .i64 _) rfl) ?_
              refine X.opw X.wN rfl (X.add (c := ((x + 1 : Nat) : Int)) rfl rfl (by rw [X.w_i64 (by omega)]; omega)) ?_
              refine X.opw X.wN rfl (X.assign (v := .int .i64 _) rfl) ?_
              refine X.opsEnd ?_
              refine hback2 (x + 1) _ _ ⟨rfl, rfl, rfl, rfl, rfl, rfl, rfl, rfl, rfl, trivial⟩ ⟨by omega, by omega, (by rw [zapTo_step f.2 al sm x (by omega) (by omega), show f.2.getD x 0 = 0 by rw [List.getD_eq_getElem?_getD, List.getElem?_eq_none (by omega)]; rfl]; exact gM1), (Ext.andThen (Ext.andThen (Ext.refl (fun q => w1.heap.size ≤ q ∧ q < w7.heap.size) _) hxI (by intro q h1 h2; first | exact (h2 : False).elim | exact h2)) hy1 (by intro q h1 h2; first | exact (h2 : False).elim | exact h2))⟩ (by omega)
          · have hx3 : min ((sm + 1) * 64) n1 ≤ x := by split at h66 <;> omega
            refine X.opsEnd ?_
            refine X.condF rfl ?_
            refine X.exit rfl ?_
            refine X.inBlock ?_
            refine X.region ?_
            refine X.opw X.wN rfl (X.add (c := ((i + 1 : Nat) : Int)) rfl rfl (by rw [X.w_i64 (by omega)]; omega)) ?_
            refine X.opw X.wN rfl (X.move (v := .int .i64 _) rfl) ?_
            refine X.opsEnd ?_
            refine hback (i + 1, zap f.2 al sm) _ _ ⟨rfl, rfl, rfl, rfl, rfl, rfl, rfl, trivial⟩ ⟨by (dsimp only); omega, by (dsimp only); rw [zap_len]; exact hal, ?_, (by rw [show ((j1 + (i + 1) : Nat) : Int) = ((j1 + i : Nat) : Int) + 1 by omega]; exact (kB.ext hxI (by first | (intros; (try simp only [] at *); omega) | (intro hh; (try simp only [] at hh); omega) | (intro q h1 h2; (try simp only [] at h1 h2); have := hlt q (by omega); omega) | (intro hh; have hh : _ = _ := hh; subst hh; omega) | (intro q h1 h2; have h2 : q = _ := h2; subst h2; (try simp only [] at h1); omega) | (intro q h1 h2; (try simp only [] at h1 h2); omega) | (intro q h1 h2; have h2 : q = _ := h2; have := hlt q (by (try simp only [] at h1); omega); omega) | (intro q h1 h2; (try simp only [] at h1 h2); rcases h2 with h2 | h2 | h2 <;> first | omega | (subst h2; omega)) | (intro q h1 h2; (try simp only [] at h1 h2); rcases h2 with h2 | h2 | h2 | h2 <;> first | omega | (subst h2; omega))))), (by rw [← zapTo_end f.2 al sm x (by omega)]; exact gMx), (Ext.andThen kx hxI (by intro q h1 h2; first | exact (h2 : False).elim | exact .inr h2))⟩ (by (dsimp only); omega)
            rw [← hzp, drop_cons hxs, zaps, if_neg (by rw [hc]; decide), Int.toNat_natCast]
            rfl
      · refine X.opsEnd ?_
        refine X.seq ?_
        refine X.condF rfl ?_
        refine X.exit rfl ?_
        refine X.seq ?_
        refine X.seq ?_
        refine X.region ?_
        refine X.opw X.wN rfl (X.move (v := .int .i64 _) rfl) ?_
        refine X.opw X.wN rfl (X.move rfl) ?_
        refine X.opw X.wN rfl (X.lenSl Tryz.underlying31 rfl) ?_
        refine X.opP X.wN rfl rfl (X.gtr rfl rfl) (fun h93 => ?_) (fun h93 => ?_)
        · 
          refine X.opsEnd ?_
          refine X.condT rfl ?_
          refine X.region ?_
          refine X.opw X.wN rfl (X.move rfl) ?_
          refine X.opw X.wN rfl (X.move rfl) ?_
          refine X.opw X.wN rfl (X.nilCk rfl) ?_
          refine X.opw X.wN rfl (X.fldB (j := 1) Tryz.underlying87 rfl rfl Tryz.sizeOf31 rfl) ?_
          refine X.opw X.wN rfl (X.load1B Tryz.isAgg31 (gF.ext hxO (by first | (intros; (try simp only [] at *); omega) | (intro hh; (try simp only [] at hh); omega) | (intro q h1 h2; (try simp only [] at h1 h2); have := hlt q (by omega); omega) | (intro hh; have hh : _ = _ := hh; subst hh; omega) | (intro q h1 h2; have h2 : q = _ := h2; subst h2; (try simp only [] at h1); omega) | (intro q h1 h2; (try simp only [] at h1 h2); omega) | (intro q h1 h2; have h2 : q = _ := h2; have := hlt q (by (try simp only [] at h1); omega); omega) | (intro q h1 h2; (try simp only [] at h1 h2); rcases h2 with h2 | h2 | h2 <;> first | omega | (subst h2; omega)) | (intro q h1 h2; (try simp only [] at h1 h2); rcases h2 with h2 | h2 | h2 | h2 <;> first | omega | (subst h2; omega)))) rfl rfl) ?_
          refine X.opw X.wN rfl (X.move rfl) ?_
          refine X.opw X.wN rfl (X.lenSl Tryz.underlying31 rfl) ?_
          refine X.opw X.wN rfl (X.move (v := .int .i64 _) rfl) ?_
          refine X.opw X.wN rfl (X.cutLH Tryz.underlying31 Tryz.sizeOf5 rfl rfl rfl ⟨by omega, by omega, by omega⟩) ?_
          refine X.opE X.wN rfl (X.appE (K := KB) (S := fun q => w.heap.size ≤ q) KB_flat Tryz.underlying31 E8d rfl rfl (Mine.mono (T := fun q => w.heap.size ≤ q) gMa (by intro q hq hS; (try simp only [] at hS); omega)) ((((gF2.ext hxO (by intros; omega) (by intro q g1 g2; (try simp only [] at g1 g2); have := hlt q (by omega); first | omega | (have g2 : q = _ := g2; subst g2; omega) | (rcases g2 with g2 | g2 <;> first | omega | (subst g2; omega)))).rd KB_flat).2.take n2 (by omega)).drop n1 c2 (by omega) (by omega)) (by simp only [List.length_drop, List.length_take]; omega) (by intro q hq; omega)) ?_
          rintro vq w12 ⟨gMq, hxq⟩
          have hxq' := hxq.size
          refine X.opw X.wN rfl (X.assign rfl) ?_
          refine X.opsEnd ?_
          refine X.seq ?_
          refine X.region ?_
          refine X.opw X.wN rfl (X.move rfl) ?_
          refine X.opw X.wN rfl (X.move (v := .int .i64 _) rfl) ?_
          refine X.opw X.wN rfl (X.move (v := .int .i64 _) rfl) ?_
          obtain ⟨Aq, cq, rfl, hcq, _⟩ := gMq.slice
          have hlq : (al ++ (f.2.take n2).drop n1).length = n2 := by simp only [List.length_append, List.length_drop, List.length_take]; omega
          refine X.opw X.wN rfl (X.cutHMr Tryz.underlying31 Tryz.sizeOf5 rfl rfl rfl (by omega)) ?_
          refine X.opw X.wN rfl (X.assign rfl) ?_
          refine X.opsEnd ?_
          refine X.ret1 Tryz.func53 Tryz.results53 rfl ?_
          have hall : al = zaps kp f.2 j1 (s0.spots k) f.1 := by
            have : (s0.spots k).drop i = [] := List.drop_of_length_le (by omega)
            rw [this] at hzp; exact hzp
          have hsz : sizeK sz j2 f = n2 := by rw [sizeK, ← hn1, ← hn2]; rw [if_neg (fun h => by rw [h.2] at hbit; cases hbit)]
          have hcn : cntK f = 1 := by rw [cntK, ← hn1, ← hn2]; rw [if_pos h32]
          have hieq : i = (s0.spots k).length := by omega
          have hkb : keptB kp j1 (s0.spots k) f n2 = (al ++ (f.2.take n2).drop n1).take n2 := by
            simp only [keptB]
            rw [← hall, hal]
            rw [List.drop_take, List.take_append, List.take_append, hal, List.take_take]; simp
          rw [hsz, hcn, hkb]
          have hB2f := ((gZ.ext hxO (by first | (intros; (try simp only [] at *); omega) | (intro hh; (try simp only [] at hh); omega) | (intro q h1 h2; (try simp only [] at h1 h2); have := hlt q (by omega); omega) | (intro hh; have hh : _ = _ := hh; subst hh; omega) | (intro q h1 h2; have h2 : q = _ := h2; subst h2; (try simp only [] at h1); omega) | (intro q h1 h2; (try simp only [] at h1 h2); omega) | (intro q h1 h2; have h2 : q = _ := h2; have := hlt q (by (try simp only [] at h1); omega); omega) | (intro q h1 h2; (try simp only [] at h1 h2); rcases h2 with h2 | h2 | h2 <;> first | omega | (subst h2; omega)) | (intro q h1 h2; (try simp only [] at h1 h2); rcases h2 with h2 | h2 | h2 | h2 <;> first | omega | (subst h2; omega)))).ext hxq (by first | (intros; (try simp only [] at *); omega) | (intro hh; (try simp only [] at hh); omega) | (intro q h1 h2; (try simp only [] at h1 h2); have := hlt q (by omega); omega) | (intro hh; have hh : _ = _ := hh; subst hh; omega) | (intro q h1 h2; have h2 : q = _ := h2; subst h2; (try simp only [] at h1); omega) | (intro q h1 h2; (try simp only [] at h1 h2); omega) | (intro q h1 h2; have h2 : q = _ := h2; have := hlt q (by (try simp only [] at h1); omega); omega) | (intro q h1 h2; (try simp only [] at h1 h2); rcases h2 with h2 | h2 | h2 <;> first | omega | (subst h2; omega)) | (intro q h1 h2; (try simp only [] at h1 h2); rcases h2 with h2 | h2 | h2 | h2 <;> first | omega | (subst h2; omega))))
          have hR := Row.of (gMq)
          refine ⟨_, rfl, ?_, (by rw [← hieq]; exact (hBs.ext hxq (by first | (intros; (try simp only [] at *); omega) | (intro hh; (try simp only [] at hh); omega) | (intro q h1 h2; (try simp only [] at h1 h2); have := hlt q (by omega); omega) | (intro hh; have hh : _ = _ := hh; subst hh; omega) | (intro q h1 h2; have h2 : q = _ := h2; subst h2; (try simp only [] at h1); omega) | (intro q h1 h2; (try simp only [] at h1 h2); omega) | (intro q h1 h2; have h2 : q = _ := h2; have := hlt q (by (try simp only [] at h1); omega); omega) | (intro q h1 h2; (try simp only [] at h1 h2); rcases h2 with h2 | h2 | h2 <;> first | omega | (subst h2; omega)) | (intro q h1 h2; (try simp only [] at h1 h2); rcases h2 with h2 | h2 | h2 | h2 <;> first | omega | (subst h2; omega))))), (by first | exact hB2f | (rw [Int.natCast_add]; exact hB2f)), (Ext.andThen (Ext.andThen gx0 hxO (by intro q h1 h2; first | exact (h2 : False).elim | ((try simp only [] at h2); omega))) hxq (by intro q h1 h2; first | exact (h2 : False).elim | ((try simp only [] at h2); omega)))⟩
          exact (hR.cap n2 n2 (by omega) (Nat.le_refl _) (by omega)).mono (fun q hq hS => ⟨by (try simp only [] at hS); omega, hq⟩)
        · refine X.opsEnd ?_
          refine X.condF rfl ?_
          refine X.skip ?_
          refine X.seq ?_
          refine X.region ?_
          refine X.opw X.wN rfl (X.move rfl) ?_
          refine X.opw X.wN rfl (X.move (v := .int .i64 _) rfl) ?_
          refine X.opw X.wN rfl (X.move (v := .int .i64 _) rfl) ?_
          refine X.opw X.wN rfl (X.cutHMr Tryz.underlying31 Tryz.sizeOf5 rfl rfl rfl (by omega)) ?_
          refine X.opw X.wN rfl (X.assign rfl) ?_
          refine X.opsEnd ?_
          refine X.ret1 Tryz.func53 Tryz.results53 rfl ?_
          have hall : al = zaps kp f.2 j1 (s0.spots k) f.1 := by
            have : (s0.spots k).drop i = [] := List.drop_of_length_le (by omega)
            rw [this] at hzp; exact hzp
          have hsz : sizeK sz j2 f = n2 := by rw [sizeK, ← hn1, ← hn2]; rw [if_neg (fun h => by rw [h.2] at hbit; cases hbit)]
          have hcn : cntK f = 1 := by rw [cntK, ← hn1, ← hn2]; rw [if_pos h32]
          have hieq : i = (s0.spots k).length := by omega
          have hkb : keptB kp j1 (s0.spots k) f n2 = (al).take n2 := by
            simp only [keptB]
            rw [← hall, hal]
            rw [List.take_append_of_le_length (by omega)]
          rw [hsz, hcn, hkb]
          have hB2f := (gZ.ext hxO (by first | (intros; (try simp only [] at *); omega) | (intro hh; (try simp only [] at hh); omega) | (intro q h1 h2; (try simp only [] at h1 h2); have := hlt q (by omega); omega) | (intro hh; have hh : _ = _ := hh; subst hh; omega) | (intro q h1 h2; have h2 : q = _ := h2; subst h2; (try simp only [] at h1); omega) | (intro q h1 h2; (try simp only [] at h1 h2); omega) | (intro q h1 h2; have h2 : q = _ := h2; have := hlt q (by (try simp only [] at h1); omega); omega) | (intro q h1 h2; (try simp only [] at h1 h2); rcases h2 with h2 | h2 | h2 <;> first | omega | (subst h2; omega)) | (intro q h1 h2; (try simp only [] at h1 h2); rcases h2 with h2 | h2 | h2 | h2 <;> first | omega | (subst h2; omega))))
          have hR := Row.of (gMa)
          refine ⟨_, rfl, ?_, (by rw [← hieq]; exact hBs), (by first | exact hB2f | (rw [Int.natCast_add]; exact hB2f)), (Ext.andThen gx0 hxO (by intro q h1 h2; first | exact (h2 : False).elim | ((try simp only [] at h2); omega)))⟩
          exact (hR.cap n2 n2 (by omega) (Nat.le_refl _) (by omega)).mono (fun q hq hS => ⟨by (try simp only [] at hS); omega, hq⟩)
  · have h32 : ¬ n1 ≠ n2 := by omega
    refine X.opw X.wN rfl (X.move (v := .bool false) rfl) ?_
    refine X.opS rfl rfl rfl rfl rfl ?_
    refine X.opS rfl rfl rfl rfl rfl ?_
    refine X.opw X.wN rfl (X.pickF (v := .bool false) rfl rfl) ?_
    refine X.opsEnd ?_
    refine X.condF rfl ?_
    refine X.skip ?_
    refine X.seq ?_
    refine X.region ?_
    refine X.opw X.wN rfl (X.move rfl) ?_
    refine X.opw X.wN rfl (X.nilCk rfl) ?_
    refine X.opw X.wN rfl (X.fldB (j := 0) Tryz.underlying87 rfl rfl Tryz.sizeOf31 rfl) ?_
    refine X.opw X.wN rfl (X.load1B Tryz.isAgg31 hBf rfl rfl) ?_
    refine X.opE X.wN rfl (X.callE (CloneB_c _ ((hM1).rd KB_flat).2 (by omega)) Tryz.call54 rfl rfl) ?_
    rintro _ w13 ⟨Ac, cc, rfl, hcc, gMc, hk13⟩
    have hk13' := hk13.size
    refine X.opw X.wN rfl (X.assign rfl) ?_
    refine X.opsEnd ?_
    refine X.seq ?_
    refine X.seq ?_
    refine X.region ?_
    refine X.opw X.wN rfl (X.move rfl) ?_
    refine X.opw X.wN rfl (X.move (v := .int .i64 _) rfl) ?_
    refine X.opE X.wN rfl (X.callE (spots_c k _ (h.ext (Ext.andThen (Ext.refl (fun q => q = bz) _) hk13 (by intro q h1 h2; first | exact (h2 : False).elim | exact h2)) (by intro q h1 h2; have h2 : q = _ := h2; subst h2; exact h1 hc2)) hok hk0 hk1) Tryz.call50 rfl rfl) ?_
    rintro _ w14 ⟨As, cs, rfl, hcs, hMs, hk14⟩
    have hk14' := hk14.size
    refine X.opw X.wN rfl (X.lenSl Tryz.underlying95 rfl) ?_
    refine X.opw X.wN rfl (X.move rfl) ?_
    refine X.opsEnd ?_
    refine X.block ?_
    obtain ⟨_, _, e9, _, gS0⟩ := hMs.slF KI_flat w13.heap.size (fun q hq => hq.1)
    injection e9 with e91 e92 e93
    subst e91 e93
    clear e92
    have hspl : (s0.spots k).length ≤ (n1 + 63) / 64 := by rw [DS.spots, hfl1]; exact spotL_len _ _ _
    have gF := (hBf.keep (hk13.trans hk14))
    have gC := (gMc.keep hk14)
    have gB := (hB1.keep (hk13.trans hk14))
    have gZ := (hB2.keep (hk13.trans hk14))
    have gS1 := ((hS1.keep hk13).keep hk14)
    have gx0 := (Ext.andThen (Ext.andThen (Ext.refl (fun q => q = bs ∨ q = bz) _) hk13 (by intro q h1 h2; first | exact (h2 : False).elim | exact .inr h2)) hk14 (by intro q h1 h2; first | exact (h2 : False).elim | exact .inr h2))
    have gxs := gx0.size
    have gF2 := ((hM2.keep hk13).keep hk14)
    refine X.loopL (σ := Nat × List UInt8) (fun s => [(2, ptrV bs), (9, ptrV pf), (10, .int .i64 (n2 : Int)), (11, .slice Ac n1 cc), (49, .slice As (s0.spots k).length cs), (50, .int .i64 ((s0.spots k).length : Int)), (51, .int .i64 (s.1 : Int))]) (fun s w' => s.1 ≤ (s0.spots k).length ∧ s.2.length = n1 ∧ zaps kp f.2 (j1 + s.1) ((s0.spots k).drop s.1) s.2 = zaps kp f.2 j1 (s0.spots k) f.1 ∧ Blk w' bs (kpL Aq1 q1 r1 ((j1 + s.1 : Nat) : Int)) 103 ∧ Mine KB 5 (fun q => w.heap.size ≤ q ∧ q < w13.heap.size) 0 0 w' (.slice Ac n1 cc) s.2 ∧ Ext (fun q => q = bs ∨ (w.heap.size ≤ q ∧ q < w13.heap.size)) w14 w') (fun s => (s0.spots k).length - s.1) (0, f.1) ⟨rfl, rfl, rfl, rfl, rfl, rfl, rfl, trivial⟩ ⟨Nat.zero_le _, hn1.symm, rfl, gB, gC, Ext.refl _ _⟩ ?_
    rintro ⟨i, al⟩ e wi ⟨hi1, hal, hzp, hBs, gMa, hxO⟩ hback
    dsimp only at hi1 hal hzp hBs gMa ⊢
    have hxO' := hxO.size
    refine X.seq ?_
    refine X.region ?_
    refine X.opP X.wN rfl rfl (X.lss rfl rfl) (fun h52 => ?_) (fun h52 => ?_)
    · obtain ⟨xs1, hxs⟩ := getN i (show (s0.spots k).length = (s0.spots k).length from rfl) (by omega)
      obtain ⟨sm, rfl, hsm⟩ := spotL_at hxs
      rw [hfl1, secs] at hsm
      refine X.opsEnd ?_
      refine X.seq ?_
      refine X.condT rfl ?_
      refine X.skip ?_
      refine X.seq ?_
      refine X.block ?_
      refine X.seq ?_
      refine X.region ?_
      refine X.opw X.wN rfl (X.idxS (gS0.ext hxO (by first | (intros; (try simp only [] at *); omega) | (intro hh; (try simp only [] at hh); omega) | (intro q h1 h2; (try simp only [] at h1 h2); have := hlt q (by omega); omega) | (intro hh; have hh : _ = _ := hh; subst hh; omega) | (intro q h1 h2; have h2 : q = _ := h2; subst h2; (try simp only [] at h1); omega) | (intro q h1 h2; (try simp only [] at h1 h2); omega) | (intro q h1 h2; have h2 : q = _ := h2; have := hlt q (by (try simp only [] at h1); omega); omega) | (intro q h1 h2; (try simp only [] at h1 h2); rcases h2 with h2 | h2 | h2 <;> first | omega | (subst h2; omega)) | (intro q h1 h2; (try simp only [] at h1 h2); rcases h2 with h2 | h2 | h2 | h2 <;> first | omega | (subst h2; omega)))) Tryz.underlying95 Tryz.sizeOf3 rfl rfl ⟨by omega, by omega⟩) ?_
      refine X.opw X.wN rfl (X.loadS Tryz.isAgg3 (gS0.ext hxO (by first | (intros; (try simp only [] at *); omega) | (intro hh; (try simp only [] at hh); omega) | (intro q h1 h2; (try simp only [] at h1 h2); have := hlt q (by omega); omega) | (intro hh; have hh : _ = _ := hh; subst hh; omega) | (intro q h1 h2; have h2 : q = _ := h2; subst h2; (try simp only [] at h1); omega) | (intro q h1 h2; (try simp only [] at h1 h2); omega) | (intro q h1 h2; have h2 : q = _ := h2; have := hlt q (by (try simp only [] at h1); omega); omega) | (intro q h1 h2; (try simp only [] at h1 h2); rcases h2 with h2 | h2 | h2 <;> first | omega | (subst h2; omega)) | (intro q h1 h2; (try simp only [] at h1 h2); rcases h2 with h2 | h2 | h2 | h2 <;> first | omega | (subst h2; omega)))) hxs rfl (fun _ h => by rw [h.1]; rfl)) ?_
      refine X.opw X.wN rfl (X.assign (v := .int .i64 _) rfl) ?_
      refine X.opsEnd ?_
      refine X.seq ?_
      refine X.seq ?_
      refine X.region ?_
      refine X.opw X.wN rfl (X.move rfl) ?_
      refine X.opE X.wN rfl (X.callE (next_c (j1 + i) _ hBs (gS1.ext hxO (by intro q g1 g2 g3; (try simp only [] at g3); first | omega | (have g3 : q = _ := g3; omega))) hbs (by omega)) Tryz.call73 rfl rfl) ?_
      rintro _ w15 ⟨rfl, gs15, hx15⟩
      have hx15' := hx15.size
      refine X.opsEnd ?_
      refine X.condB rfl (fun hc => ?_) (fun hc => ?_)
      · refine X.exit rfl ?_
        refine X.region ?_
        refine X.opw X.wN rfl (X.add (c := ((i + 1 : Nat) : Int)) rfl rfl (by rw [X.w_i64 (by omega)]; omega)) ?_
        refine X.opw X.wN rfl (X.move (v := .int .i64 _) rfl) ?_
        refine X.opsEnd ?_
        refine hback (i + 1, al) _ _ ⟨rfl, rfl, rfl, rfl, rfl, rfl, rfl, trivial⟩ ⟨by (dsimp only); omega, hal, ?_, (by rw [show ((j1 + (i + 1) : Nat) : Int) = ((j1 + i : Nat) : Int) + 1 by omega]; exact gs15), (gMa.ext hx15 (by first | (intros; (try simp only [] at *); omega) | (intro hh; (try simp only [] at hh); omega) | (intro q h1 h2; (try simp only [] at h1 h2); have := hlt q (by omega); omega) | (intro hh; have hh : _ = _ := hh; subst hh; omega) | (intro q h1 h2; have h2 : q = _ := h2; subst h2; (try simp only [] at h1); omega) | (intro q h1 h2; (try simp only [] at h1 h2); omega) | (intro q h1 h2; have h2 : q = _ := h2; have := hlt q (by (try simp only [] at h1); omega); omega) | (intro q h1 h2; (try simp only [] at h1 h2); rcases h2 with h2 | h2 | h2 <;> first | omega | (subst h2; omega)) | (intro q h1 h2; (try simp only [] at h1 h2); rcases h2 with h2 | h2 | h2 | h2 <;> first | omega | (subst h2; omega))) (by first | (intros; (try simp only [] at *); omega) | (intro hh; (try simp only [] at hh); omega) | (intro q h1 h2; (try simp only [] at h1 h2); have := hlt q (by omega); omega) | (intro hh; have hh : _ = _ := hh; subst hh; omega) | (intro q h1 h2; have h2 : q = _ := h2; subst h2; (try simp only [] at h1); omega) | (intro q h1 h2; (try simp only [] at h1 h2); omega) | (intro q h1 h2; have h2 : q = _ := h2; have := hlt q (by (try simp only [] at h1); omega); omega) | (intro q h1 h2; (try simp only [] at h1 h2); rcases h2 with h2 | h2 | h2 <;> first | omega | (subst h2; omega)) | (intro q h1 h2; (try simp only [] at h1 h2); rcases h2 with h2 | h2 | h2 | h2 <;> first | omega | (subst h2; omega)))), (Ext.andThen (Ext.andThen (Ext.refl (fun q => q = bs ∨ (w.heap.size ≤ q ∧ q < w13.heap.size)) _) hxO (by intro q h1 h2; first | exact (h2 : False).elim | exact h2 | exact .inl h2)) hx15 (by intro q h1 h2; first | exact (h2 : False).elim | exact h2 | exact .inl h2))⟩ (by (dsimp only); omega)
        rw [← hzp, drop_cons hxs, zaps, if_pos hc]
        rfl
      · refine X.skip ?_
        refine X.seq ?_
        refine X.region ?_
        refine X.opw X.wN rfl (X.move (v := .int .i64 _) rfl) ?_
        refine X.opw X.wN rfl (X.mul (c := ((sm * 64 : Nat) : Int)) rfl rfl (by rw [X.w_i64 (by omega)]; omega)) ?_
        refine X.opw X.wN rfl (X.assign (v := .int .i64 _) rfl) ?_
        refine X.opsEnd ?_
        refine X.block ?_
        have kF := ((gF.ext hxO (by first | (intros; (try simp only [] at *); omega) | (intro hh; (try simp only [] at hh); omega) | (intro q h1 h2; (try simp only [] at h1 h2); have := hlt q (by omega); omega) | (intro hh; have hh : _ = _ := hh; subst hh; omega) | (intro q h1 h2; have h2 : q = _ := h2; subst h2; (try simp only [] at h1); omega) | (intro q h1 h2; (try simp only [] at h1 h2); omega) | (intro q h1 h2; have h2 : q = _ := h2; have := hlt q (by (try simp only [] at h1); omega); omega) | (intro q h1 h2; (try simp only [] at h1 h2); rcases h2 with h2 | h2 | h2 <;> first | omega | (subst h2; omega)) | (intro q h1 h2; (try simp only [] at h1 h2); rcases h2 with h2 | h2 | h2 | h2 <;> first | omega | (subst h2; omega)))).ext hx15 (by first | (intros; (try simp only [] at *); omega) | (intro hh; (try simp only [] at hh); omega) | (intro q h1 h2; (try simp only [] at h1 h2); have := hlt q (by omega); omega) | (intro hh; have hh : _ = _ := hh; subst hh; omega) | (intro q h1 h2; have h2 : q = _ := h2; subst h2; (try simp only [] at h1); omega) | (intro q h1 h2; (try simp only [] at h1 h2); omega) | (intro q h1 h2; have h2 : q = _ := h2; have := hlt q (by (try simp only [] at h1); omega); omega) | (intro q h1 h2; (try simp only [] at h1 h2); rcases h2 with h2 | h2 | h2 <;> first | omega | (subst h2; omega)) | (intro q h1 h2; (try simp only [] at h1 h2); rcases h2 with h2 | h2 | h2 | h2 <;> first | omega | (subst h2; omega))))
        have kF2 := ((gF2.ext hxO (by intros; omega) (by intro q g1 g2; (try simp only [] at g1 g2); have := hlt q (by omega); first | omega | (have g2 : q = _ := g2; subst g2; omega) | (rcases g2 with g2 | g2 <;> first | omega | (subst g2; omega)))).ext hx15 (by intros; omega) (by intro q g1 g2; (try simp only [] at g1 g2); have := hlt q (by omega); first | omega | (have g2 : q = _ := g2; subst g2; omega) | (rcases g2 with g2 | g2 <;> first | omega | (subst g2; omega))))
        have kM := (gMa.ext hx15 (by first | (intros; (try simp only [] at *); omega) | (intro hh; (try simp only [] at hh); omega) | (intro q h1 h2; (try simp only [] at h1 h2); have := hlt q (by omega); omega) | (intro hh; have hh : _ = _ := hh; subst hh; omega) | (intro q h1 h2; have h2 : q = _ := h2; subst h2; (try simp only [] at h1); omega) | (intro q h1 h2; (try simp only [] at h1 h2); omega) | (intro q h1 h2; have h2 : q = _ := h2; have := hlt q (by (try simp only [] at h1); omega); omega) | (intro q h1 h2; (try simp only [] at h1 h2); rcases h2 with h2 | h2 | h2 <;> first | omega | (subst h2; omega)) | (intro q h1 h2; (try simp only [] at h1 h2); rcases h2 with h2 | h2 | h2 | h2 <;> first | omega | (subst h2; omega))) (by first | (intros; (try simp only [] at *); omega) | (intro hh; (try simp only [] at hh); omega) | (intro q h1 h2; (try simp only [] at h1 h2); have := hlt q (by omega); omega) | (intro hh; have hh : _ = _ := hh; subst hh; omega) | (intro q h1 h2; have h2 : q = _ := h2; subst h2; (try simp only [] at h1); omega) | (intro q h1 h2; (try simp only [] at h1 h2); omega) | (intro q h1 h2; have h2 : q = _ := h2; have := hlt q (by (try simp only [] at h1); omega); omega) | (intro q h1 h2; (try simp only [] at h1 h2); rcases h2 with h2 | h2 | h2 <;> first | omega | (subst h2; omega)) | (intro q h1 h2; (try simp only [] at h1 h2); rcases h2 with h2 | h2 | h2 | h2 <;> first | omega | (subst h2; omega))))
        have kB := gs15
        have kS := ((gS0.ext hxO (by first | (intros; (try simp only [] at *); omega) | (intro hh; (try simp only [] at hh); omega) | (intro q h1 h2; (try simp only [] at h1 h2); have := hlt q (by omega); omega) | (intro hh; have hh : _ = _ := hh; subst hh; omega) | (intro q h1 h2; have h2 : q = _ := h2; subst h2; (try simp only [] at h1); omega) | (intro q h1 h2; (try simp only [] at h1 h2); omega) | (intro q h1 h2; have h2 : q = _ := h2; have := hlt q (by (try simp only [] at h1); omega); omega) | (intro q h1 h2; (try simp only [] at h1 h2); rcases h2 with h2 | h2 | h2 <;> first | omega | (subst h2; omega)) | (intro q h1 h2; (try simp only [] at h1 h2); rcases h2 with h2 | h2 | h2 | h2 <;> first | omega | (subst h2; omega)))).ext hx15 (by first | (intros; (try simp only [] at *); omega) | (intro hh; (try simp only [] at hh); omega) | (intro q h1 h2; (try simp only [] at h1 h2); have := hlt q (by omega); omega) | (intro hh; have hh : _ = _ := hh; subst hh; omega) | (intro q h1 h2; have h2 : q = _ := h2; subst h2; (try simp only [] at h1); omega) | (intro q h1 h2; (try simp only [] at h1 h2); omega) | (intro q h1 h2; have h2 : q = _ := h2; have := hlt q (by (try simp only [] at h1); omega); omega) | (intro q h1 h2; (try simp only [] at h1 h2); rcases h2 with h2 | h2 | h2 <;> first | omega | (subst h2; omega)) | (intro q h1 h2; (try simp only [] at h1 h2); rcases h2 with h2 | h2 | h2 | h2 <;> first | omega | (subst h2; omega))))
        have kx := (Ext.andThen (Ext.andThen (Ext.refl (fun q => q = bs ∨ (w.heap.size ≤ q ∧ q < w13.heap.size)) _) hxO (by intro q h1 h2; first | exact (h2 : False).elim | exact h2 | exact .inl h2 | exact .inr h2)) hx15 (by intro q h1 h2; first | exact (h2 : False).elim | exact h2 | exact .inl h2 | exact .inr h2))
        have kxs := kx.size
        refine X.loopL (σ := Nat) (fun s => [(2, ptrV bs), (9, ptrV pf), (10, .int .i64 (n2 : Int)), (11, .slice Ac n1 cc), (13, .int .i64 (sm : Int)), (14, .int .i64 (s : Int)), (49, .slice As (s0.spots k).length cs), (50, .int .i64 ((s0.spots k).length : Int)), (51, .int .i64 (i : Int))]) (fun s w' => sm * 64 ≤ s ∧ s ≤ min ((sm + 1) * 64) n1 ∧ Mine KB 5 (fun q => w.heap.size ≤ q ∧ q < w13.heap.size) 0 0 w' (.slice Ac n1 cc) (zapTo f.2 al sm s) ∧ Ext (fun q => w.heap.size ≤ q ∧ q < w13.heap.size) w15 w') (fun s => n1 - s) (sm * 64) ⟨rfl, rfl, rfl, rfl, rfl, rfl, rfl, rfl, rfl, trivial⟩ ⟨Nat.le_refl _, by omega, by rw [zapTo_start]; exact kM, Ext.refl _ _⟩ ?_
        rintro x e wx ⟨hx1, hx2, gMx, hxI⟩ hback2
        have hxI' := hxI.size
        have hzl := zapTo_len f.2 al sm x
        refine X.seq ?_
        refine X.seq ?_
        refine X.region ?_
        refine X.opw X.wN rfl (X.move (v := .int .i64 _) rfl) ?_
        refine X.opw X.wN rfl (X.move (v := .int .i64 _) rfl) ?_
        refine X.opw X.wN rfl (X.add rfl rfl (X.w_i64 (by omega))) ?_
        refine X.opw X.wN rfl (X.mul (c := (((sm + 1) * 64 : Nat) : Int)) rfl rfl (by rw [X.w_i64 (by omega)]; omega)) ?_
        refine X.opw X.wN rfl (X.move rfl) ?_
        refine X.opw X.wN rfl (X.lenSl Tryz.underlying31 rfl) ?_
        refine X.opw X.wN rfl (X.minII rfl rfl) ?_
        refine X.opP X.wN rfl rfl (X.lss rfl rfl) (fun h66 => ?_) (fun h66 => ?_)
        · have hx3 : x < (sm + 1) * 64 ∧ x < n1 := by split at h66 <;> omega
          refine X.opsEnd ?_
          refine X.condT rfl ?_
          refine X.skip ?_
          refine X.seq ?_
          refine X.block ?_
          refine X.seq ?_
          refine X.region ?_
          refine X.opw X.wN rfl (X.move rfl) ?_
          refine X.opw X.wN rfl (X.move (v := .int .i64 _) rfl) ?_
          refine X.opw X.wN rfl (X.idxS (gMx.rd KB_flat).2 Tryz.underlying31 Tryz.sizeOf5 rfl rfl ⟨by omega, by omega⟩) ?_
          refine X.opE X.wN rfl (X.storeM (y := 0) (j := x) Tryz.sizeOf5 gMx (by omega) rfl rfl) ?_
          rintro _ w16 ⟨gM1, hy1, hz1⟩
          refine X.opsEnd ?_
          refine X.seq ?_
          refine X.region ?_
          refine X.opw X.wN rfl (X.move (v := .int .i64 _) rfl) ?_
          refine X.opw X.wN rfl (X.move rfl) ?_
          refine X.opw X.wN rfl (X.nilCk rfl) ?_
          refine X.opw X.wN rfl (X.fldB (j := 1) Tryz.underlying87 rfl rfl Tryz.sizeOf31 rfl) ?_
          refine X.opw X.wN rfl (X.load1B Tryz.isAgg31 ((kF.ext hxI (by first | (intros; (try simp only [] at *); omega) | (intro hh; (try simp only [] at hh); omega) | (intro q h1 h2; (try simp only [] at h1 h2); have := hlt q (by omega); omega) | (intro hh; have hh : _ = _ := hh; subst hh; omega) | (intro q h1 h2; have h2 : q = _ := h2; subst h2; (try simp only [] at h1); omega) | (intro q h1 h2; (try simp only [] at h1 h2); omega) | (intro q h1 h2; have h2 : q = _ := h2; have := hlt q (by (try simp only [] at h1); omega); omega) | (intro q h1 h2; (try simp only [] at h1 h2); rcases h2 with h2 | h2 | h2 <;> first | omega | (subst h2; omega)) | (intro q h1 h2; (try simp only [] at h1 h2); rcases h2 with h2 | h2 | h2 | h2 <;> first | omega | (subst h2; omega)))).ext hy1 (by first | (intros; (try simp only [] at *); omega) | (intro hh; (try simp only [] at hh); omega) | (intro q h1 h2; (try simp only [] at h1 h2); have := hlt q (by omega); omega) | (intro hh; have hh : _ = _ := hh; subst hh; omega) | (intro q h1 h2; have h2 : q = _ := h2; subst h2; (try simp only [] at h1); omega) | (intro q h1 h2; (try simp only [] at h1 h2); omega) | (intro q h1 h2; have h2 : q = _ := h2; have := hlt q (by (try simp only [] at h1); omega); omega) | (intro q h1 h2; (try simp only [] at h1 h2); rcases h2 with h2 | h2 | h2 <;> first | omega | (subst h2; omega)) | (intro q h1 h2; (try simp only [] at h1 h2); rcases h2 with h2 | h2 | h2 | h2 <;> first | omega | (subst h2; omega)))) rfl rfl) ?_
          refine X.opw X.wN rfl (X.lenSl Tryz.underlying31 rfl) ?_
          refine X.opP X.wN rfl rfl (X.lss rfl rfl) (fun h78 => ?_) (fun h78 => ?_)
          · obtain ⟨xf, hxf⟩ := getN x hn2.symm (by omega)
            refine X.opsEnd ?_
            refine X.condT rfl ?_
            refine X.region ?_
            refine X.opw X.wN rfl (X.move rfl) ?_
            refine X.opw X.wN rfl (X.move (v := .int .i64 _) rfl) ?_
            refine X.opw X.wN rfl (X.move rfl) ?_
            refine X.opw X.wN rfl (X.nilCk rfl) ?_
            refine X.opw X.wN rfl (X.fldB (j := 1) Tryz.underlying87 rfl rfl Tryz.sizeOf31 rfl) ?_
            refine X.opw X.wN rfl (X.load1B Tryz.isAgg31 ((kF.ext hxI (by first | (intros; (try simp only [] at *); omega) | (intro hh; (try simp only [] at hh); omega) | (intro q h1 h2; (try simp only [] at h1 h2); have := hlt q (by omega); omega) | (intro hh; have hh : _ = _ := hh; subst hh; omega) | (intro q h1 h2; have h2 : q = _ := h2; subst h2; (try simp only [] at h1); omega) | (intro q h1 h2; (try simp only [] at h1 h2); omega) | (intro q h1 h2; have h2 : q = _ := h2; have := hlt q (by (try simp only [] at h1); omega); omega) | (intro q h1 h2; (try simp only [] at h1 h2); rcases h2 with h2 | h2 | h2 <;> first | omega | (subst h2; omega)) | (intro q h1 h2; (try simp only [] at h1 h2); rcases h2 with h2 | h2 | h2 | h2 <;> first | omega | (subst h2; omega)))).ext hy1 (by first | (intros; (try simp only [] at *); omega) | (intro hh; (try simp only [] at hh); omega) | (intro q h1 h2; (try simp only [] at h1 h2); have := hlt q (by omega); omega) | (intro hh; have hh : _ = _ := hh; subst hh; omega) | (intro q h1 h2; have h2 : q = _ := h2; subst h2; (try simp only [] at h1); omega) | (intro q h1 h2; (try simp only [] at h1 h2); omega) | (intro q h1 h2; have h2 : q = _ := h2; have := hlt q (by (try simp only [] at h1); omega); omega) | (intro q h1 h2; (try simp only [] at h1 h2); rcases h2 with h2 | h2 | h2 <;> first | omega | (subst h2; omega)) | (intro q h1 h2; (try simp only [] at h1 h2); rcases h2 with h2 | h2 | h2 | h2 <;> first | omega | (subst h2; omega)))) rfl rfl) ?_
            refine X.opw X.wN rfl (X.move (v := .int .i64 _) rfl) ?_
            refine X.opw X.wN rfl (X.idxS (((kF2.ext hxI (by intros; omega) (by intro q g1 g2; (try simp only [] at g1 g2); have := hlt q (by omega); first | omega | (have g2 : q = _ := g2; subst g2; omega) | (rcases g2 with g2 | g2 <;> first | omega | (subst g2; omega)))).ext hy1 (by intros; omega) (by intro q g1 g2; (try simp only [] at g1 g2); have := hlt q (by omega); first | omega | (have g2 : q = _ := g2; subst g2; omega) | (rcases g2 with g2 | g2 <;> first | omega | (subst g2; omega)))).rd KB_flat).2 Tryz.underlying31 Tryz.sizeOf5 rfl rfl ⟨by omega, by omega⟩) ?_
            refine X.opw X.wN rfl (X.loadS Tryz.isAgg5 (((kF2.ext hxI (by intros; omega) (by intro q g1 g2; (try simp only [] at g1 g2); have := hlt q (by omega); first | omega | (have g2 : q = _ := g2; subst g2; omega) | (rcases g2 with g2 | g2 <;> first | omega | (subst g2; omega)))).ext hy1 (by intros; omega) (by intro q g1 g2; (try simp only [] at g1 g2); have := hlt q (by omega); first | omega | (have g2 : q = _ := g2; subst g2; omega) | (rcases g2 with g2 | g2 <;> first | omega | (subst g2; omega)))).rd KB_flat).2 hxf rfl (fun _ h => by rw [h.1]; rfl)) ?_
            refine X.opw X.wN rfl (X.idxS (gM1.rd KB_flat).2 Tryz.underlying31 Tryz.sizeOf5 rfl rfl ⟨by omega, by omega⟩) ?_
            refine X.opE X.wN rfl (X.storeM (y := xf) (j := x) Tryz.sizeOf5 gM1 (by rw [List.length_set]; omega) rfl rfl) ?_
            rintro _ w17 ⟨gM2, hy2, hz2⟩
            refine X.opsEnd ?_
            refine X.inBlock ?_
            refine X.region ?_
            refine X.opw X.wN rfl (X.move (v := .int .i64 _) rfl) ?_
            refine X.opw X.wN rfl (X.add (c := ((x + 1 : Nat) : Int)) rfl rfl (by rw [X.w_i64 (by omega)]; omega)) ?_
            refine X.opw X.wN rfl (X.assign (v := .int .i64 _) rfl) ?_
            refine X.opsEnd ?_
            refine hback2 (x + 1) _ _ ⟨rfl, rfl, rfl, rfl, rfl, rfl, rfl, rfl, rfl, trivial⟩ ⟨by omega, by omega, (by rw [zapTo_step f.2 al sm x (by omega) (by omega), show f.2.getD x 0 = xf by rw [List.getD_eq_getElem?_getD, hxf]; rfl, ← List.set_set (a := (0 : UInt8))]; exact gM2), (Ext.andThen (Ext.andThen (Ext.andThen (Ext.refl (fun q => w.heap.size ≤ q ∧ q < w13.heap.size) _) hxI (by intro q h1 h2; first | exact (h2 : False).elim | exact h2)) hy1 (by intro q h1 h2; first | exact (h2 : False).elim | exact h2)) hy2 (by intro q h1 h2; first | exact (h2 : False).elim | exact h2))⟩ (by omega)
          · refine X.opsEnd ?_
            refine X.condF rfl ?_
            refine X.skip ?_
            refine X.inBlock ?_
            refine X.region ?_
            refine X.opw X.wN rfl (X.move (v := .int .i64 _) rfl) ?_
            refine X.opw X.wN rfl (X.add (c := ((x + 1 : Nat) : Int)) rfl rfl (by rw [X.w_i64 (by omega)]; omega)) ?_
            refine X.opw X.wN rfl (X.assign (v := .int .i64 _) rfl) ?_
            refine X.opsEnd ?_
            refine hback2 (x + 1) _ _ ⟨rfl, rfl, rfl, rfl, rfl, rfl, rfl, rfl, rfl, trivial⟩ ⟨by omega, by omega, (by rw [zapTo_step f.2 al sm x (by omega) (by omega), show f.2.getD x 0 = 0 by rw [List.getD_eq_getElem?_getD, List.getElem?_eq_none (by omega)]; rfl]; exact gM1), (Ext.andThen (Ext.andThen (Ext.refl (fun q => w.heap.size ≤ q ∧ q < w13.heap.size) _) hxI (by intro q h1 h2; first | exact (h2 : False).elim | exact h2)) hy1 (by intro q h1 h2; first | exact (h2 : False).elim | exact h2))⟩ (by omega)
        · have hx3 : min ((sm + 1) * 64) n1 ≤ x := by split at h66 <;> omega
          refine X.opsEnd ?_
          refine X.condF rfl ?_
          refine X.exit rfl ?_
          refine X.inBlock ?_
          refine X.region ?_
          refine X.opw X.wN rfl (X.add (c := ((i + 1 : Nat) : Int)) rfl rfl (by rw [X.w_i64 (by omega)]; omega)) ?_
          refine X.opw X.wN rfl (X.move (v := .int .i64 _) rfl) ?_
          refine X.opsEnd ?_
          refine hback (i + 1, zap f.2 al sm) _ _ ⟨rfl, rfl, rfl, rfl, rfl, rfl, rfl, trivial⟩ ⟨by (dsimp only); omega, by (dsimp only); rw [zap_len]; exact hal, ?_, (by rw [show ((j1 + (i + 1) : Nat) : Int) = ((j1 + i : Nat) : Int) + 1 by omega]; exact (kB.ext hxI (by first | (intros; (try simp only [] at *); omega) | (intro hh; (try simp only [] at hh); omega) | (intro q h1 h2; (try simp only [] at h1 h2); have := hlt q (by omega); omega) | (intro hh; have hh : _ = _ := hh; subst hh; omega) | (intro q h1 h2; have h2 : q = _ := h2; subst h2; (try simp only [] at h1); omega) | (intro q h1 h2; (try simp only [] at h1 h2); omega) | (intro q h1 h2; have h2 : q = _ := h2; have := hlt q (by (try simp only [] at h1); omega); omega) | (intro q h1 h2; (try simp only [] at h1 h2); rcases h2 with h2 | h2 | h2 <;> first | omega | (subst h2; omega)) | (intro q h1 h2; (try simp only [] at h1 h2); rcases h2 with h2 | h2 | h2 | h2 <;> first | omega | (subst h2; omega))))), (by rw [← zapTo_end f.2 al sm x (by omega)]; exact gMx), (Ext.andThen kx hxI (by intro q h1 h2; first | exact (h2 : False).elim | exact .inr h2))⟩ (by (dsimp only); omega)
          rw [← hzp, drop_cons hxs, zaps, if_neg (by rw [hc]; decide), Int.toNat_natCast]
          rfl
    · refine X.opsEnd ?_
      refine X.seq ?_
      refine X.condF rfl ?_
      refine X.exit rfl ?_
      refine X.seq ?_
      refine X.seq ?_
      refine X.region ?_
      refine X.opw X.wN rfl (X.move (v := .int .i64 _) rfl) ?_
      refine X.opw X.wN rfl (X.move rfl) ?_
      refine X.opw X.wN rfl (X.lenSl Tryz.underlying31 rfl) ?_
      refine X.opP X.wN rfl rfl (X.gtr rfl rfl) (fun h93 => ?_) (fun h93 => ?_)
      · exact absurd h93 (by omega)
      · refine X.opsEnd ?_
        refine X.condF rfl ?_
        refine X.skip ?_
        refine X.seq ?_
        refine X.region ?_
        refine X.opw X.wN rfl (X.move rfl) ?_
        refine X.opw X.wN rfl (X.move (v := .int .i64 _) rfl) ?_
        refine X.opw X.wN rfl (X.move (v := .int .i64 _) rfl) ?_
        refine X.opw X.wN rfl (X.cutHMr Tryz.underlying31 Tryz.sizeOf5 rfl rfl rfl (by omega)) ?_
        refine X.opw X.wN rfl (X.assign rfl) ?_
        refine X.opsEnd ?_
        refine X.ret1 Tryz.func53 Tryz.results53 rfl ?_
        have hall : al = zaps kp f.2 j1 (s0.spots k) f.1 := by
          have : (s0.spots k).drop i = [] := List.drop_of_length_le (by omega)
          rw [this] at hzp; exact hzp
        have hsz : sizeK sz j2 f = n2 := by rw [sizeK, ← hn1, ← hn2]; rw [if_neg (fun h => h32 h.1)]
        have hcn : cntK f = 0 := by rw [cntK, ← hn1, ← hn2]; rw [if_neg h32]
        have hieq : i = (s0.spots k).length := by omega
        have hkb : keptB kp j1 (s0.spots k) f n2 = (al).take n2 := by
          simp only [keptB]
          rw [← hall, hal]
          rw [List.take_append_of_le_length (by omega)]
        rw [hsz, hcn, hkb]
        have hB2f := (gZ.ext hxO (by first | (intros; (try simp only [] at *); omega) | (intro hh; (try simp only [] at hh); omega) | (intro q h1 h2; (try simp only [] at h1 h2); have := hlt q (by omega); omega) | (intro hh; have hh : _ = _ := hh; subst hh; omega) | (intro q h1 h2; have h2 : q = _ := h2; subst h2; (try simp only [] at h1); omega) | (intro q h1 h2; (try simp only [] at h1 h2); omega) | (intro q h1 h2; have h2 : q = _ := h2; have := hlt q (by (try simp only [] at h1); omega); omega) | (intro q h1 h2; (try simp only [] at h1 h2); rcases h2 with h2 | h2 | h2 <;> first | omega | (subst h2; omega)) | (intro q h1 h2; (try simp only [] at h1 h2); rcases h2 with h2 | h2 | h2 | h2 <;> first | omega | (subst h2; omega))))
        have hR := Row.of (gMa)
        refine ⟨_, rfl, ?_, (by rw [← hieq]; exact hBs), (by first | exact hB2f | (rw [Int.natCast_add]; exact hB2f)), (Ext.andThen gx0 hxO (by intro q h1 h2; first | exact (h2 : False).elim | ((try simp only [] at h2); omega)))⟩
        exact (hR.cap n2 n2 (by omega) (Nat.le_refl _) (by omega)).mono (fun q hq hS => ⟨by (try simp only [] at hS); omega, hq⟩)
end Go.Proofs.YtcdebnppbnmmgaaGreat

namespace Go.Proofs.YtcdebnppbnmmgaaGreat
open Go Go.Proofs.YtcdebnppbnmmgaaGreat.X
set_option linter.unusedVariables false
set_option linter.unusedSimpArgs false
def tns (cs : List CHG) (d : DIR) : DIR := cs.foldl (fun d c => trn c d) d
theorem tns_snoc {cs : List CHG} {i : Nat} {x : CHG} {d : DIR} (h : cs[i]? = some x) : tns (cs.take (i + 1)) d = trn x (tns (cs.take i) d) := by
  rw [take_at h, tns, List.foldl_append]; rfl
/-- The name of a file. -/
def nameOf (d : DIR) (k : Int) : Option ByteArray := (d.find? fun p => decide (p.2 = k)).map (·.1)
theorem nameOf_some {d : DIR} {k : Int} {nm : ByteArray} (hi : (d.map (·.2)).Nodup) : nameOf d k = some nm ↔ (nm, k) ∈ d := by
  constructor
  · intro h
    obtain ⟨p, hp, rfl⟩ := Option.map_eq_some_iff.1 h
    have h1 := List.mem_of_find?_eq_some hp
    have h2 : p.2 = k := by simpa using List.find?_some hp
    rw [← h2]; exact h1
  · intro h
    cases hf : d.find? fun p => decide (p.2 = k) with
    | none => have := List.find?_eq_none.1 hf (nm, k) h; simp at this
    | some p =>
      have h1 := List.mem_of_find?_eq_some hf
      have h2 : p.2 = k := by simpa using List.find?_some hf
      have h3 : p = (nm, k) := by
        obtain ⟨i, hi1⟩ := List.getElem?_of_mem h1
        obtain ⟨j, hj1⟩ := List.getElem?_of_mem h
        have a1 : (d.map (·.2))[i]? = some k := by rw [List.getElem?_map, hi1, ← h2]; rfl
        have a2 : (d.map (·.2))[j]? = some k := by rw [List.getElem?_map, hj1]; rfl
        have : i = j := (List.getElem?_inj (List.getElem?_eq_some_iff.1 a1).1 hi).1 (a1.trans a2.symm)
        subst this
        rw [hi1] at hj1; cases hj1; rfl
      rw [nameOf, hf, h3]; rfl
/-- The files left, one by one. -/
def loseF (s : DS) (d : DIR) (kp sz : List Bool) : List Int → Nat → Nat → List FILE × DIR → List FILE × DIR
  | [], _, _, o => o
  | k :: l, n, m, o => loseF s d kp sz l (n + (s.spots k).length) (m + cntK (fat s.fs k)) (match nameOf d k with
    | none => o
    | some nm => (fun b : List UInt8 => (o.1 ++ [(b, b)], put nm (o.1.length : Int) o.2)) (keptB kp n (s.spots k) (fat s.fs k) (sizeK sz m (fat s.fs k))))
def DS.left (dn : Nat) (kp sz : List Bool) (s : DS) : List FILE × DIR := loseF s (tns (s.chs.take dn) s.fx) kp sz s.near 0 0 ([], [])
def DS.mk0 (rm : Int) (fs : List FILE) (dir fx : DIR) : DS := { rm, fs, dir, fx, chs := [], ls := [], fu := false, lf := 0 }
/-- The disk behind a loss. -/
def DS.lose (dn : Nat) (kp sz : List Bool) (s : DS) : DS := DS.mk0 s.rm (s.left dn kp sz).1 (s.left dn kp sz).2 (s.left dn kp sz).2
theorem sizeK_le {s : DS} (h : s.Ok) {k : Int} {f : FILE} (hf : s.fs[k.toNat]? = some f) (sz : List Bool) (m : Nat) : sizeK sz m f ≤ 1048576 := by
  have := h.len hf
  rw [sizeK]; split <;> omega
theorem keptB_len (kp : List Bool) (n : Nat) (sp : List Int) (sz : List Bool) (m : Nat) (f : FILE) : (keptB kp n sp f (sizeK sz m f)).length = sizeK sz m f := by
  simp only [keptB, List.length_take, List.length_append, List.length_drop, zaps_len]
  rw [sizeK]; split <;> omega
section
variable {col : Nat → Nat} {w w' : World} {b bf bd bx bl : Nat} {A : Option Addr} {n c : Nat} {pt : List Nat} {s : DS}
/-- A file is added, with what it has. -/
theorem DkB.addF {p h1 h2 A1n : Nat} {d' : DIR} {f : FILE} {A1 A2 : Option Addr} {n1 c1 n2 c2 : Nat} (h : DkB col w b bf bd bx bl A n c pt s) (x : Ext (fun q => col q ≤ 3) w w')
    (hB : Blk w' b (dkL s.rm (some bf) ((s.fs.length : Int) + 1) (some bd) (some bx) A n c (some bl) s.fu s.lf) 71) (hF : MPF w' bf (put (s.fs.length : Int) (ptrV p) (fmapF 0 pt))) (hG : MPD w' bd d') (hh1 : w.heap.size ≤ h1) (hh2 : h1 ≤ h2) (hp : h2 ≤ p) (hp' : p < w'.heap.size)
    (hBp : Blk w' p (fiL A1 n1 c1 A2 n2 c2) 87) (hM1 : Row KB 5 (fun q => w.heap.size ≤ q ∧ q < h1) 0 0 w' (.slice A1 n1 c1) f.1) (hM2 : Mine KB 5 (fun q => h1 ≤ q ∧ q < h2) 0 0 w' (.slice A2 n2 c2) f.2) :
    ∃ col', DkB col' w' b bf bd bx bl A n c (pt ++ [p]) { s with fs := s.fs ++ [f], dir := d' } ∧ ∀ q, q < w.heap.size → col' q = col q := by
  have hxs := x.size
  have hpl := h.pl
  obtain ⟨col', hcol⟩ : ∃ col' : Nat → Nat, col' = fun q => if q < w.heap.size then col q else if q < h1 then 8 + 3 * s.fs.length else if q < h2 then 9 + 3 * s.fs.length else if q < w'.heap.size then 7 + 3 * s.fs.length else 0 := ⟨_, rfl⟩
  have hold : ∀ q, q < w.heap.size → col' q = col q := fun q hq => by rw [hcol]; simp only [if_pos hq]
  have c8 : ∀ q, w.heap.size ≤ q → q < h1 → col' q = 8 + 3 * s.fs.length := fun q a1 a2 => by rw [hcol]; simp only [if_neg (Nat.not_lt.2 a1), if_pos a2]
  have c9 : ∀ q, h1 ≤ q → q < h2 → col' q = 9 + 3 * s.fs.length := fun q a1 a2 => by rw [hcol]; simp only [if_neg (show ¬ q < w.heap.size by omega), if_neg (Nat.not_lt.2 a1), if_pos a2]
  have c7 : ∀ q, h2 ≤ q → q < w'.heap.size → col' q = 7 + 3 * s.fs.length := fun q a1 a2 => by rw [hcol]; simp only [if_neg (show ¬ q < w.heap.size by omega), if_neg (show ¬ q < h1 by omega), if_neg (Nat.not_lt.2 a1), if_pos a2]
  have P := h.part (col' := col') (fun v => v ≤ 3) x hold (fun q hq ht => ht)
  refine ⟨col', ⟨?_, ?_, hG, P.X (by omega), P.L (by omega), P.M (by omega), P.cb, P.cf, P.cd, P.cx, P.cl, ?_, by simp [hpl], ?_⟩, hold⟩
  · have e1 : ((s.fs ++ [f] : List FILE).length : Int) = (s.fs.length : Int) + 1 := by simp
    simp only [e1]; exact hB
  · have h4 := fmapF_put p pt 0
    rw [Nat.zero_add, hpl] at h4
    simp only [MPF, MpV]
    have h3 : mv (fun v : Value => v) (put (s.fs.length : Int) (ptrV p) (fmapF 0 pt)) = mv (fun v : Value => v) (fmapF 0 (pt ++ [p])) := by rw [h4]
    rw [← h3]; exact hF
  · intro q hq
    rw [hcol] at hq
    simp only [] at hq
    have := h.lt q
    by_cases a1 : q < w.heap.size
    · omega
    · rw [if_neg a1] at hq
      by_cases a2 : q < h1
      · omega
      · rw [if_neg a2] at hq
        by_cases a3 : q < h2
        · omega
        · rw [if_neg a3] at hq
          by_cases a4 : q < w'.heap.size
          · exact a4
          · rw [if_neg a4] at hq; exact absurd rfl hq
  · intro k q g a1 a2
    rcases Nat.lt_or_ge k pt.length with hk | hk
    · rw [List.getElem?_append_left hk] at a1
      have a2' : (s.fs ++ [f] : List FILE)[k]? = some g := a2
      rw [List.getElem?_append_left (by omega)] at a2'
      exact P.fl k q g a1 a2' (fun j _ _ => by omega)
    · have hk0 : k = pt.length := by
        have := (List.getElem?_eq_some_iff.1 a1).1
        simp at this; omega
      subst hk0
      have h3 : q = p := by rw [List.getElem?_append_right (by omega)] at a1; simpa using a1.symm
      have h4 : g = f := by
        have a2' : (s.fs ++ [f] : List FILE)[pt.length]? = some g := a2
        rw [List.getElem?_append_right (by omega), hpl] at a2'; simpa using a2'.symm
      subst h3 h4
      rw [hpl]
      exact ⟨c7 q hp hp', _, _, _, _, _, _, hBp, hM1.mono (fun q _ hS => c8 q hS.1 hS.2), hM2.mono (fun q _ hS => c9 q hS.1 hS.2)⟩
end
theorem New_ok (rm : Int) (w : World) (hrm : 1 ≤ rm ∧ rm ≤ 1048576) : Ret Tryz.prog 10 #[.int .i64 rm] w fun r w' => ∃ b bf bd bx bl col, r = .tuple #[ptrV b, .int .i64 0] ∧ DkB col w' b bf bd bx bl none 0 0 [] (DS.mk0 rm [] [] []) ∧ (∀ q, col q ≠ 0 → w.heap.size ≤ q) ∧ Keep w w' := by
  refine (New_c rm w).mono ?_
  rintro r w' (⟨h1, _⟩ | ⟨_, b, bf, bd, bx, bl, rfl, hB, hF, hG, hX, hL, h1, h2, h3, h4, h5, h6, hk⟩)
  · omega
  · refine ⟨b, bf, bd, bx, bl, (fun q => if q = b then 1 else if q = bf then 2 else if q = bd then 3 else if q = bx then 4 else if q = bl then 5 else 0), rfl, ⟨hB, hF, hG, hX, hL, Mine.nil _ _ _ _ _ _, ?_, ?_, ?_, ?_, ?_, ?_, rfl, fun k p f a1 _ => by simp at a1⟩, ?_, hk⟩
    · simp
    · simp only []; rw [if_neg (by omega), if_pos True.intro]
    · simp only []; rw [if_neg (by omega), if_neg (by omega), if_pos True.intro]
    · simp only []; rw [if_neg (by omega), if_neg (by omega), if_neg (by omega), if_pos True.intro]
    · simp only []; rw [if_neg (by omega), if_neg (by omega), if_neg (by omega), if_neg (by omega), if_pos True.intro]
    · intro q hq
      try simp only [] at hq
      split at hq
      · omega
      · split at hq
        · omega
        · split at hq
          · omega
          · split at hq
            · omega
            · split at hq
              · omega
              · exact absurd rfl hq
    · intro q hq
      try simp only [] at hq
      split at hq
      · omega
      · split at hq
        · omega
        · split at hq
          · omega
          · split at hq
            · omega
            · split at hq
              · omega
              · exact absurd rfl hq
end Go.Proofs.YtcdebnppbnmmgaaGreat
