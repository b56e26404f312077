/- Texts that the proof of RunBursts stands on, part 15. -/
import Derived.Shelf.Sort.Plain
import Derived.Shelf.Slices.In.SortNone
import Derived.Shelf.Slices.CompactI
import Derived.Sort.OwnSorted
import Derived.Sort.OwnSortedInts
import Derived.Test.YtbljooblpfdbiaaGreatDoorProg
import Derived.Test.YtbljooblpfdbiaaGreatDoorBunRunBursts14
set_option maxHeartbeats 4000000
set_option maxRecDepth 100000
open Go.Proofs.Tryz renaming call18 → Zc18, call36 → Zc36, call44 → Zc44, func13 → Zf13, func14 → Zf14, func23 → Zf23, func27 → Zf27, func65 → Zf65, func9 → Zf9, isAgg106 → Zi106, isAgg3 → Zi3, isAgg31 → Zi31, isAgg38 → Zi38, isAgg40 → Zi40, isAgg54 → Zi54, isAgg9 → Zi9, isAgg90 → Zi90, results13 → Zr13, results14 → Zr14, results23 → Zr23, results27 → Zr27, results65 → Zr65, sizeOf106 → Zs106, sizeOf3 → Zs3, sizeOf38 → Zs38, sizeOf40 → Zs40, sizeOf5 → Zs5, sizeOf54 → Zs54, sizeOf9 → Zs9, sizeOf90 → Zs90, underlying106 → Zu106, underlying22 → Zu22, underlying26 → Zu26, underlying3 → Zu3, underlying31 → Zu31, underlying38 → Zu38, underlying40 → Zu40, underlying43 → Zu43, underlying54 → Zu54, underlying56 → Zu56, underlying77 → Zu77, underlying9 → Zu9, underlying90 → Zu90, zeroValue106 → Zv106, zeroValue40 → Zv40, zeroValue90 → Zv90
set_option linter.unusedSimpArgs false
set_option linter.unusedVariables false
namespace Go.Proofs.YtbljooblpfdbiaaGreatDoor.X
open Go Go.Proofs Go.Sort Go.Shelf Go.RowKit
/-! ### what slices.Compact keeps -/
section
variable {d : Array Int} {zs : List Int}
theorem get!_mem {d : Array Int} {j : Nat} (h : j < d.size) : d[j]! ∈ d.toList := by
  rw [getElem!_pos d j h]; simp
theorem cut_sub {m : Nat} (hm : m ≤ d.size) {x : Int} (h : x ∈ Lib.compactUpTo d m) : ∃ j, j < m ∧ x = d[j]! := by
  obtain ⟨j, hj, rfl⟩ := List.mem_map.1 h
  exact ⟨j, List.mem_range.1 (List.mem_filter.1 hj).1, rfl⟩
theorem cut_mem (d : Array Int) : ∀ (m j : Nat), j < m → d[j]! ∈ Lib.compactUpTo d m
  | 0, j, h => by omega
  | m + 1, j, h => by
    rw [Lib.compactUpTo_succ]
    rcases Nat.lt_or_ge j m with hj | hj
    · exact List.mem_append_left _ (cut_mem d m j hj)
    · have : j = m := by omega
      subst this
      by_cases hk : Lib.keeps d j = true
      · rw [if_pos hk]; exact List.mem_append_right _ (by simp)
      · have h1 : ¬ (j = 0 ∨ d[j]! ≠ d[j - 1]!) := fun h => hk (by simp only [Lib.keeps, decide_eq_true_eq]; exact h)
        have h2 : j ≠ 0 := fun e => h1 (.inl e)
        have h3 : d[j]! = d[j - 1]! := Classical.byContradiction fun e => h1 (.inr e)
        rw [h3]
        exact List.mem_append_left _ (cut_mem d j (j - 1) Zz)
theorem cut_inc (hs : ∀ i j, i ≤ j → j < d.size → d[i]! ≤ d[j]!) : ∀ m, m ≤ d.size → (Lib.compactUpTo d m).Pairwise (· < ·)
  | 0, _ => by simp [Lib.compactUpTo]
  | m + 1, hm => by
    rw [Lib.compactUpTo_succ]
    have ih := cut_inc hs m Zz
    by_cases hk : Lib.keeps d m = true
    · rw [if_pos hk]
      refine List.pairwise_append.2 ⟨ih, by simp, fun a ha b hb => ?_⟩
      simp only [List.mem_singleton] at hb
      subst hb
      obtain ⟨j, hj, rfl⟩ := cut_sub Zz ha
      simp only [Lib.keeps, decide_eq_true_eq] at hk
      rcases hk with hk | hk
      · omega
      · have h1 := hs j (m - 1) Zz Zz
        have h2 := hs (m - 1) m Zz Zz
        omega
    · rw [if_neg hk, List.append_nil]; exact ih
theorem compact_sub (zs : List Int) : ∀ x, x ∈ Lib.compact zs → x ∈ zs := fun x h => by
  obtain ⟨j, hj, rfl⟩ := cut_sub (d := zs.toArray) (by simp) h
  simpa using get!_mem (d := zs.toArray) (j := j) (by simpa using hj)
theorem compact_mem {x : Int} (h : x ∈ zs) : x ∈ Lib.compact zs := by
  obtain ⟨j, hj⟩ := List.getElem?_of_mem h
  have hl := (List.getElem?_eq_some_iff.1 hj).1
  have := cut_mem zs.toArray zs.length j hl
  rw [getElem!_pos zs.toArray j (by simpa using hl)] at this
  have e : zs.toArray[j]'(by simpa using hl) = x := by
    have := (List.getElem?_eq_some_iff.1 hj).2
    simpa using this
  rw [e] at this
  exact this
theorem compact_inc (h : zs.Pairwise (· ≤ ·)) : (Lib.compact zs).Pairwise (· < ·) := by
  refine cut_inc (fun i j hij hj => ?_) zs.length (by simp)
  have hj' : j < zs.length := by simpa using hj
  rw [getElem!_pos zs.toArray i (by simp; omega), getElem!_pos zs.toArray j hj]
  simp only [List.getElem_toArray]
  rcases Nat.lt_or_ge i j with h1 | h1
  · exact List.pairwise_iff_getElem.1 h i j Zz hj' h1
  · have : i = j := by omega
    subst this; exact Int.le_refl _
def nrs (l : List Int) : List Int := Lib.compact (l.mergeSort fun x y => decide (x ≤ y))
theorem nrs_mem {l : List Int} {x : Int} : x ∈ nrs l ↔ x ∈ l := ⟨fun h => List.mem_mergeSort.1 (compact_sub _ x h), fun h => compact_mem (List.mem_mergeSort.2 h)⟩
theorem nrs_inc (l : List Int) : (nrs l).Pairwise (· < ·) := compact_inc (by
  have := List.pairwise_mergeSort (le := fun x y : Int => decide (x ≤ y)) (by intro a b c; simp; omega) (by intro a b; simp; omega) l
  exact this.imp (by simp))
end
section
variable {P : Program} {ρ : Ren} {w w' : World} {e : TypeId} {S : Nat → Prop} {A : Option Addr} {n c : Nat}
def sortB (xs : List ByteArray) : List ByteArray := ((xs.map fun s => s.data.toList).mergeSort fun x y => decide (x ≤ y)).map fun l => ⟨l.toArray⟩
end
end Go.Proofs.YtbljooblpfdbiaaGreatDoor.X
namespace Go.Proofs.YtbljooblpfdbiaaGreatDoor
open Go Go.Proofs.YtbljooblpfdbiaaGreatDoor.X
theorem repsI1 {w : World} {x : Int} (h : -9223372036854775808 ≤ x ∧ x ≤ 9223372036854775807) : RepsV KI w [x] [.int .i64 x] := ⟨⟨_, rfl, rfl, h⟩, trivial⟩
section
variable {w : World} {e : TypeId} {S : Nat → Prop} {A : Option Addr} {n c : Nat}
end
def newF (l : List CHG) : List Int := (l.filter fun c => decide (c.1 = ⟨#[]⟩)).map fun c => c.2.2
def DS.near (s : DS) : List Int := nrs (s.fx.map (·.2) ++ newF s.chs)
def vals (d : DIR) (ds : List ByteArray) : List Int := ds.reverse.map fun k => (asc k d).getD 0
def spotL (ls : LS) (k : Int) (n : Nat) : List Int := ((List.range n).filter fun i : Nat => (asc (k, (i : Int)) ls).getD false).map fun i : Nat => (i : Int)
def DS.spots (k : Int) (s : DS) : List Int := spotL s.ls k (secs (flen s.fs k))
def looseL (s : DS) : List Int → Nat × Nat
  | [] => (0, 0)
  | k :: l => ((s.spots k).length + (looseL s l).1, (if (fat s.fs k).1.length ≠ (fat s.fs k).2.length then 1 else 0) + (looseL s l).2)
def DS.loose (s : DS) : Nat × Nat × Nat := (s.chs.length, looseL s s.near)
def bit (l : List Bool) (n : Nat) : Bool := l.getD n false
def zap (fx b : List UInt8) (s : Nat) : List UInt8 := b.mapIdx fun i y => if i / 64 = s then fx.getD i 0 else y
def zaps (kp : List Bool) (fx : List UInt8) : Nat → List Int → List UInt8 → List UInt8
  | _, [], b => b
  | n, s :: l, b => zaps kp fx (n + 1) l (if bit kp n = true then b else zap fx b s.toNat)
def keptB (kp : List Bool) (n : Nat) (sp : List Int) (f : FILE) (size : Nat) : List UInt8 := ((fun all : List UInt8 => (all ++ f.2.drop all.length).take size) (zaps kp f.2 n sp f.1))
def sizeK (sz : List Bool) (m : Nat) (f : FILE) : Nat := if f.1.length ≠ f.2.length ∧ bit sz m = true then f.1.length else f.2.length
def cntK (f : FILE) : Nat := if f.1.length ≠ f.2.length then 1 else 0
def tns (cs : List CHG) (d : DIR) : DIR := cs.foldl (fun d c => trn c d) d
def nameOf (d : DIR) (k : Int) : Option ByteArray := (d.find? fun p => decide (p.2 = k)).map (·.1)
def loseF (s : DS) (d : DIR) (kp sz : List Bool) : List Int → Nat → Nat → List FILE × DIR → List FILE × DIR
  | [], _, _, o => o
  | k :: l, n, m, o => loseF s d kp sz l (n + (s.spots k).length) (m + cntK (fat s.fs k)) (match nameOf d k with
    | none => o
    | some nm => (fun b : List UInt8 => (o.1 ++ [(b, b)], put nm (o.1.length : Int) o.2)) (keptB kp n (s.spots k) (fat s.fs k) (sizeK sz m (fat s.fs k))))
def DS.left (dn : Nat) (kp sz : List Bool) (s : DS) : List FILE × DIR := loseF s (tns (s.chs.take dn) s.fx) kp sz s.near 0 0 ([], [])
def DS.mk0 (rm : Int) (fs : List FILE) (dir fx : DIR) : DS := { rm, fs, dir, fx, chs := [], ls := [], fu := false, lf := 0 }
section
variable {col : Nat → Nat} {w w' : World} {b bf bd bx bl : Nat} {A : Option Addr} {n c : Nat} {pt : List Nat} {s : DS}
end
theorem New_ok (rm : Int) (w : World) (hrm : 1 ≤ rm ∧ rm ≤ 1048576) : Ret Tryz.prog 12 #[.int .i64 rm] w fun r w' => ∃ b bf bd bx bl col, r = .tuple #[ptrV b, .int .i64 0] ∧ DkB col w' b bf bd bx bl none 0 0 [] (DS.mk0 rm [] [] []) ∧ (∀ q, col q ≠ 0 → w.heap.size ≤ q) ∧ Keep w w' := by
  refine (New_c rm w).mono ?_
  rintro r w' (⟨h1, _⟩ | ⟨_, b, bf, bd, bx, bl, rfl, hB, hF, hG, hX, hL, h1, h2, h3, h4, h5, h6, hk⟩)
  · omega
  · refine ⟨b, bf, bd, bx, bl, (fun q => if q = b then 1 else if q = bf then 2 else if q = bd then 3 else if q = bx then 4 else if q = bl then 5 else 0), rfl, ⟨hB, hF, hG, hX, hL, Mine.nil _ _ _ _ _ _, ?_, ?_, ?_, ?_, ?_, ?_, rfl, fun k p f a1 _ => by simp at a1⟩, ?_, hk⟩
    · simp
    · simp only []; rw [if_neg Zz, if_pos True.intro]
    · simp only []; rw [if_neg Zz, if_neg Zz, if_pos True.intro]
    · simp only []; rw [if_neg Zz, if_neg Zz, if_neg Zz, if_pos True.intro]
    · simp only []; rw [if_neg Zz, if_neg Zz, if_neg Zz, if_neg Zz, if_pos True.intro]
    · intro q hq
      try simp only [] at hq
      split at hq
      · omega
      · split at hq
        · omega
        · split at hq
          · omega
          · split at hq
            · omega
            · split at hq
              · omega
              · exact absurd rfl hq
    · intro q hq
      try simp only [] at hq
      split at hq
      · omega
      · split at hq
        · omega
        · split at hq
          · omega
          · split at hq
            · omega
            · split at hq
              · omega
              · exact absurd rfl hq
theorem put_mem {κ ν : Type} [DecidableEq κ] {x : κ} {v : ν} : ∀ {m : List (κ × ν)} {p : κ × ν}, p ∈ put x v m → p = (x, v) ∨ p ∈ m
  | [], p, h => by simp [put] at h; exact .inl h
  | (a, u) :: m, p, h => by
    rw [put] at h
    split at h
    · rename_i e
      rcases List.mem_cons.1 h with h | h
      · exact .inl (by rw [h, e])
      · exact .inr (List.mem_cons_of_mem _ h)
    · rcases List.mem_cons.1 h with h | h
      · exact .inr (by rw [h]; exact List.mem_cons_self)
      · exact (put_mem h).imp id (List.mem_cons_of_mem _)
theorem put_len {κ ν : Type} [DecidableEq κ] (x : κ) (v : ν) : ∀ m : List (κ × ν), (put x v m).length ≤ m.length + 1
  | [] => by simp [put]
  | (a, u) :: m => by
    rw [put]
    split
    · simp
    · have := put_len x v m; simp; omega
theorem put_inj {κ ν : Type} [DecidableEq κ] {x : κ} {v : ν} : ∀ {m : List (κ × ν)}, (m.map (·.2)).Nodup → v ∉ m.map (·.2) → ((put x v m).map (·.2)).Nodup
  | [], _, _ => by simp [put]
  | (a, u) :: m, hn, hv => by
    simp only [List.map_cons, List.nodup_cons, List.mem_cons, not_or] at hn hv
    rw [put]
    split
    · simp only [List.map_cons, List.nodup_cons]; exact ⟨hv.2, hn.2⟩
    · simp only [List.map_cons, List.nodup_cons]
      refine ⟨fun h => ?_, put_inj hn.2 hv.2⟩
      obtain ⟨p, hp, e⟩ := List.mem_map.1 h
      rcases put_mem hp with rfl | hp
      · exact hv.1 e
      · exact hn.1 (by rw [← e]; exact List.mem_map.2 ⟨p, hp, rfl⟩)
theorem trn_eq (c : CHG) (d : DIR) : trn c d = if c.2.1 = ⟨#[]⟩ then (if c.1 = ⟨#[]⟩ then d else del c.1 d) else put c.2.1 c.2.2 (if c.1 = ⟨#[]⟩ then d else del c.1 d) := rfl
theorem trn_ne {c : CHG} {d : DIR} (h : ∀ p, p ∈ d → p.1 ≠ ⟨#[]⟩) : ∀ p, p ∈ trn c d → p.1 ≠ ⟨#[]⟩ := by
  have h1 : ∀ p, p ∈ (if c.1 = ⟨#[]⟩ then d else del c.1 d) → p.1 ≠ ⟨#[]⟩ := fun p hp => by
    split at hp
    · exact h p hp
    · exact h p ((del_sub d).subset hp)
  intro p hp
  rw [trn_eq] at hp
  split at hp
  · exact h1 p hp
  · rename_i e
    rcases put_mem hp with rfl | hp
    · exact e
    · exact h1 p hp
theorem tns_ne : ∀ {cs : List CHG} {d : DIR}, (∀ p, p ∈ d → p.1 ≠ ⟨#[]⟩) → ∀ p, p ∈ tns cs d → p.1 ≠ ⟨#[]⟩
  | [], _, h => h
  | c :: cs, d, h => tns_ne (cs := cs) (trn_ne (c := c) h)
def DirOk (n : Nat) (d : DIR) : Prop := (∀ p, p ∈ d → 0 ≤ p.2 ∧ p.2 < (n : Int) ∧ p.1.size ≤ 64) ∧ (d.map (·.1)).Nodup
theorem DirOk.trn {n : Nat} {d : DIR} (h : DirOk n d) {c : CHG} (hc : c.2.1 ≠ ⟨#[]⟩ → 0 ≤ c.2.2 ∧ c.2.2 < (n : Int) ∧ c.2.1.size ≤ 64) : DirOk n (trn c d) := by
  have h1 : DirOk n (if c.1 = ⟨#[]⟩ then d else del c.1 d) := by
    split
    · exact h
    · exact ⟨fun p hp => h.1 p ((del_sub d).subset hp), del_nodup h.2⟩
  rw [trn_eq]
  split
  · exact h1
  · rename_i e
    refine ⟨fun p hp => ?_, put_nodup h1.2⟩
    rcases put_mem hp with rfl | hp
    · exact hc e
    · exact h1.1 p hp
theorem DirOk.tns {n : Nat} : ∀ {cs : List CHG} {d : DIR}, DirOk n d → (∀ c, c ∈ cs → c.2.1 ≠ ⟨#[]⟩ → 0 ≤ c.2.2 ∧ c.2.2 < (n : Int) ∧ c.2.1.size ≤ 64) → DirOk n (tns cs d)
  | [], _, h, _ => h
  | c :: cs, d, h, hc => DirOk.tns (cs := cs) (h.trn (hc c List.mem_cons_self)) fun x hx => hc x (List.mem_cons_of_mem _ hx)
theorem tns_app (cs : List CHG) (c : CHG) (d : DIR) : tns (cs ++ [c]) d = trn c (tns cs d) := by rw [tns, List.foldl_append]; rfl
structure DS.Inv (s : DS) : Prop where
  ok : s.Ok
  tie : s.dir = tns s.chs s.fx
  inj : ∀ i, ((tns (s.chs.take i) s.fx).map (·.2)).Nodup
  fewi : ∀ i, (tns (s.chs.take i) s.fx).length ≤ 256
  nef : ∀ p, p ∈ s.fx → p.1 ≠ ⟨#[]⟩
theorem Inv_new {rm : Int} (h : 1 ≤ rm ∧ rm ≤ 1048576) : (DS.mk0 rm [] [] []).Inv :=
  ⟨⟨h, (fun _ h => by cases h), (fun _ h => by cases h), (fun _ h => by cases h), (fun _ h => by cases h), (fun _ h => by cases h), Nat.zero_le _, Nat.zero_le _, (show (0 : Int) ≤ 0 ∧ (0 : Int) ≤ 1048576 by decide), List.nodup_nil, List.nodup_nil⟩, rfl, fun i => by simp [DS.mk0, tns], fun i => by simp [DS.mk0, tns], fun _ h => by cases h⟩
theorem DS.Ok.did {s : DS} (h : s.Ok) (hd : ¬ s.down = true) : s.did.Ok := by
  refine ⟨h.rm, h.dir, h.fx, h.chs, h.chn, h.fs, h.few, h.fewx, ?_, h.nd, h.ndx⟩
  have h1 := h.lf
  simp only [DS.did]
  split
  · rename_i hf
    have : ¬ s.lf ≤ 0 := fun hl => hd (by rw [DS.down, hf]; simpa using hl)
    omega
  · exact h1
theorem DS.Inv.did {s : DS} (h : s.Inv) (hd : ¬ s.down = true) : s.did.Inv := ⟨h.ok.did hd, h.tie, h.inj, h.fewi, h.nef⟩
theorem DS.Inv.note {s : DS} (h : s.Inv) {c : CHG} (h1 : c.1 = ⟨#[]⟩ → 0 ≤ c.2.2 ∧ c.2.2 < (s.fs.length : Int)) (h2 : c.2.1 ≠ ⟨#[]⟩ → 0 ≤ c.2.2 ∧ c.2.2 < (s.fs.length : Int) ∧ c.2.1.size ≤ 64) (h3 : ((trn c s.dir).map (·.2)).Nodup) (h4 : (trn c s.dir).length ≤ 256) : (s.note c).Inv := by
  have hd : DirOk s.fs.length (trn c s.dir) := DirOk.trn ⟨fun p hp => h.ok.dir p hp, h.ok.nd⟩ h2
  have ht : trn c s.dir = tns (s.chs ++ [c]) s.fx := by rw [tns_app, ← h.tie]
  refine ⟨⟨h.ok.rm, hd.1, h.ok.fx, ?_, ?_, h.ok.fs, h4, h.ok.fewx, h.ok.lf, hd.2, h.ok.ndx⟩, ht, ?_, ?_, h.nef⟩
  · intro x hx
    rcases List.mem_append.1 hx with hx | hx
    · exact h.ok.chs x hx
    · rw [List.mem_singleton.1 hx]; exact h1
  · intro x hx
    rcases List.mem_append.1 hx with hx | hx
    · exact h.ok.chn x hx
    · rw [List.mem_singleton.1 hx]; exact h2
  · intro i
    show ((tns ((s.chs ++ [c]).take i) s.fx).map (·.2)).Nodup
    rcases Nat.lt_or_ge s.chs.length i with hi | hi
    · rw [List.take_of_length_le (by simp; omega), ← ht]; exact h3
    · rw [List.take_append_of_le_length hi]; exact h.inj i
  · intro i
    show (tns ((s.chs ++ [c]).take i) s.fx).length ≤ 256
    rcases Nat.lt_or_ge s.chs.length i with hi | hi
    · rw [List.take_of_length_le (by simp; omega), ← ht]; exact h4
    · rw [List.take_append_of_le_length hi]; exact h.fewi i
theorem DS.Inv.vals {s : DS} (h : s.Inv) : (s.dir.map (·.2)).Nodup := by
  have := h.inj s.chs.length
  rwa [List.take_length, ← h.tie] at this
theorem DS.Inv.ne {s : DS} (h : s.Inv) : ∀ p, p ∈ s.dir → p.1 ≠ ⟨#[]⟩ := by
  rw [h.tie]; exact tns_ne h.nef
theorem DS.Inv.create {s : DS} (h : s.Inv) (nm : ByteArray) : (s.create nm).2.Inv := by
  rw [DS.create]
  split
  · exact h
  · rename_i hd
    split
    · exact h
    · rename_i hr
      split
      · exact h
      · rename_i hth
        split
        · exact h
        · rename_i hf
          have h0 : ({ s with fs := s.fs ++ [([], [])] } : DS).Inv := by
            refine ⟨⟨h.ok.rm, fun p hp => ?_, fun p hp => ?_, fun c hc he => ?_, fun c hc he => ?_, fun f hf => ?_, h.ok.few, h.ok.fewx, h.ok.lf, h.ok.nd, h.ok.ndx⟩, h.tie, h.inj, h.fewi, h.nef⟩
            · have := h.ok.dir p hp; simp; omega
            · have := h.ok.fx p hp; simp; omega
            · have := h.ok.chs c hc he; simp; omega
            · have := h.ok.chn c hc he; simp; omega
            · rcases List.mem_append.1 hf with hf | hf
              · exact h.ok.fs f hf
              · rw [List.mem_singleton.1 hf]; exact ⟨Nat.zero_le _, Nat.zero_le _⟩
          have hrn : nm ≠ ⟨#[]⟩ ∧ nm.size ≤ 64 := by
            cases hq : rightN nm with
            | false => exact absurd hq hr
            | true => rw [rightN] at hq; simpa using hq
          have e1 : trn (⟨#[]⟩, nm, (s.fs.length : Int)) s.dir = put nm (s.fs.length : Int) s.dir := by rw [trn_eq, if_neg hrn.1, if_pos rfl]
          refine (h0.note (c := (⟨#[]⟩, nm, (s.fs.length : Int))) (fun _ => by simp; omega) (fun _ => by simp; exact ⟨by omega, hrn.2⟩) ?_ ?_).did (fun e => hd e)
          · show ((trn (⟨#[]⟩, nm, (s.fs.length : Int)) s.dir).map (·.2)).Nodup
            rw [e1]
            refine put_inj h.vals fun hm => ?_
            obtain ⟨p, hp, e⟩ := List.mem_map.1 hm
            have := h.ok.dir p hp; omega
          · show (trn (⟨#[]⟩, nm, (s.fs.length : Int)) s.dir).length ≤ 256
            rw [e1]
            have := put_len nm (s.fs.length : Int) s.dir
            omega
theorem DS.Inv.delete {s : DS} (h : s.Inv) (nm : ByteArray) : (s.delete nm).2.Inv := by
  rw [DS.delete]
  split
  · exact h
  · rename_i hd
    split
    · exact h
    · rename_i hn
      have hpos : 0 < s.fs.length := by
        cases ha : asc nm s.dir with
        | none => exact absurd ha hn
        | some k => have := h.ok.dir _ (asc_some ha); omega
      have hs : (trn (nm, ⟨#[]⟩, 0) s.dir).Sublist s.dir := by
        rw [trn_eq, if_pos rfl]
        split
        · exact List.Sublist.refl _
        · exact del_sub _
      refine (h.note (c := (nm, ⟨#[]⟩, 0)) (fun _ => by simp; exact hpos) (fun e => absurd rfl e) (h.vals.sublist (hs.map _)) ?_).did (fun e => hd e)
      exact Nat.le_trans hs.length_le h.ok.few
theorem DS.Inv.files {s : DS} (h : s.Inv) {fs : List FILE} {ls : LS} (hl : fs.length = s.fs.length) (hf : ∀ f, f ∈ fs → f.1.length ≤ 1048576 ∧ f.2.length ≤ 1048576) : ({ s with fs := fs, ls := ls } : DS).Inv :=
  ⟨⟨h.ok.rm, by rw [hl]; exact h.ok.dir, by rw [hl]; exact h.ok.fx, by rw [hl]; exact h.ok.chs, by rw [hl]; exact h.ok.chn, hf, h.ok.few, h.ok.fewx, h.ok.lf, h.ok.nd, h.ok.ndx⟩, h.tie, h.inj, h.fewi, h.nef⟩
theorem set_files {fs : List FILE} {k : Nat} {g : FILE} (h : ∀ f, f ∈ fs → f.1.length ≤ 1048576 ∧ f.2.length ≤ 1048576) (hg : g.1.length ≤ 1048576 ∧ g.2.length ≤ 1048576) : ∀ f, f ∈ fs.set k g → f.1.length ≤ 1048576 ∧ f.2.length ≤ 1048576 := fun f hf => by
  rcases List.mem_or_eq_of_mem_set hf with hf | rfl
  · exact h f hf
  · exact hg
theorem DS.Ok.fatl {s : DS} (h : s.Ok) (k : Int) : (fat s.fs k).1.length ≤ 1048576 ∧ (fat s.fs k).2.length ≤ 1048576 := by
  rw [fat, List.getD_eq_getElem?_getD]
  cases hf : s.fs[k.toNat]? with
  | none => exact ⟨Nat.zero_le _, Nat.zero_le _⟩
  | some f => exact h.len hf
theorem DS.Inv.sync {s : DS} (h : s.Inv) (nm : ByteArray) : (s.sync nm).2.Inv := by
  rw [DS.sync]
  split
  · exact h
  · rename_i hd
    split
    · exact h
    · rename_i k hk
      have := h.ok.fatl k
      exact (h.files (by simp) (set_files (g := ((fat s.fs k).1, (fat s.fs k).1)) h.ok.fs ⟨this.1, this.1⟩)).did (fun e => hd e)
theorem DS.Inv.write {s : DS} (h : s.Inv) (nm : ByteArray) (a : Int) (x : List UInt8) : (s.write nm a x).2.Inv := by
  rw [DS.write]
  split
  · exact h
  · rename_i hd
    split
    · exact h
    · rename_i k hk
      split
      · exact h
      · rename_i h1
        split
        · exact h
        · rename_i h2
          split
          · exact h
          · have hl := h.ok.fatl k
            have hw := wrt_len (fat s.fs k).1 a.toNat x Zz
            exact (h.files (by simp) (set_files (g := (wrt (fat s.fs k).1 a.toNat x, (fat s.fs k).2)) h.ok.fs ⟨by (dsimp only); rw [hw]; omega, hl.2⟩)).did (fun e => hd e)
theorem DS.Inv.fuse {s : DS} (h : s.Inv) (n : Int) : (s.fuse n).2.Inv := by
  rw [DS.fuse]
  split
  · exact h
  · exact ⟨⟨h.ok.rm, h.ok.dir, h.ok.fx, h.ok.chs, h.ok.chn, h.ok.fs, h.ok.few, h.ok.fewx, ⟨by (dsimp only); omega, by (dsimp only); omega⟩, h.ok.nd, h.ok.ndx⟩, h.tie, h.inj, h.fewi, h.nef⟩
def tks (f : Int → Nat) (d : DIR) : Nat := (d.map fun p => f p.2).sum
theorem tks_cons (f : Int → Nat) (p : ByteArray × Int) (d : DIR) : tks f (p :: d) = f p.2 + tks f d := by simp [tks]
theorem costs_tks (sz : Int → Nat) {d : DIR} (hn : (d.map (·.1)).Nodup) : costs sz d = tks (fun k => (sz k + 63) / 64) d := by
  rw [costs, tks, List.map_map]
  congr 1
  refine List.map_congr_left fun p hp => ?_
  show cost sz d p.1 = _
  rw [cost, asc_mem hn (x := p.1) (u := p.2) hp]; rfl
theorem DS.used_tks {s : DS} (h : s.Ok) : s.used = tks (fun k => (flen s.fs k + 63) / 64) s.dir := costs_tks _ h.nd
theorem tks_del (f : Int → Nat) (x : ByteArray) : ∀ d : DIR, tks f (del x d) + ((asc x d).map f).getD 0 = tks f d
  | [] => rfl
  | (a, u) :: d => by
    rw [del, asc]
    by_cases h : x = a
    · rw [if_pos h, if_pos h, tks_cons]; show _ + f u = _; simp only []; omega
    · rw [if_neg h, if_neg h, tks_cons, tks_cons]
      have := tks_del f x d
      simp only []; omega
theorem tks_put (f : Int → Nat) (x : ByteArray) (k : Int) : ∀ d : DIR, tks f (put x k d) ≤ tks f d + f k
  | [] => by simp [put, tks]
  | (a, u) :: d => by
    rw [put]
    by_cases h : x = a
    · rw [if_pos h, tks_cons, tks_cons]; simp only []; omega
    · rw [if_neg h, tks_cons, tks_cons]
      have := tks_put f x k d
      simp only []; omega
theorem tks_congr {f g : Int → Nat} {d : DIR} (h : ∀ p, p ∈ d → f p.2 = g p.2) : tks f d = tks g d := by
  rw [tks, tks, List.map_congr_left h]
theorem tks_one {f g : Int → Nat} {k : Int} (h : ∀ j, j ≠ k → f j = g j) : ∀ {d : DIR}, (d.map (·.2)).Nodup → ∀ x, asc x d = some k → tks f d + g k = tks g d + f k
  | [], _, x, hx => by cases hx
  | (a, u) :: d, hn, x, hx => by
    obtain ⟨h1, h2⟩ := List.nodup_cons.1 (by simpa using hn : (u :: d.map (·.2)).Nodup)
    rw [asc] at hx
    rw [tks_cons, tks_cons]
    by_cases hxa : x = a
    · rw [if_pos hxa] at hx
      cases hx
      have : tks f d = tks g d := tks_congr fun p hp => h p.2 fun e => h1 (List.mem_map.2 ⟨p, hp, e⟩)
      simp only []; omega
    · rw [if_neg hxa] at hx
      have hk : k ∈ d.map (·.2) := List.mem_map.2 ⟨_, asc_some hx, rfl⟩
      have := h u fun e => h1 (e ▸ hk)
      have := tks_one h h2 x hx
      simp only []; omega
theorem flen_set (fs : List FILE) (k : Nat) (f : FILE) (j : Int) (hj : 0 ≤ j) (hk : k < fs.length) : flen (fs.set k f) j = if j.toNat = k then f.1.length else flen fs j := by
  rw [flen, flen, List.getD_eq_getElem?_getD, List.getD_eq_getElem?_getD]
  by_cases e : j.toNat = k
  · rw [if_pos e, e, List.getElem?_set_self hk]; rfl
  · rw [if_neg e, List.getElem?_set_ne (fun h => e h.symm)]
def DS.Fits (r : Int) (s : DS) : Prop := s.rm = r ∧ (s.used : Int) ≤ r
section
variable {s : DS} {r : Int}
theorem DS.Fits.did (h : s.Fits r) : s.did.Fits r := h
theorem DS.Fits.fuse (h : s.Fits r) (n : Int) : (s.fuse n).2.Fits r := by
  rw [DS.fuse]; split
  · exact h
  · exact h
theorem DS.Fits.delete (h : s.Fits r) (hi : s.Inv) (nm : ByteArray) : (s.delete nm).2.Fits r := by
  have hi2 := hi.delete nm
  rw [DS.delete] at hi2 ⊢; split
  · exact h
  · rename_i hd
    split
    · exact h
    · rename_i hn
      rw [if_neg hd, if_neg hn] at hi2
      refine ⟨h.1, ?_⟩
      have h2 := h.2
      rw [DS.used_tks hi.ok] at h2
      rw [DS.used_tks hi2.ok]
      show ((tks (fun k => (Go.Proofs.YtbljooblpfdbiaaGreatDoor.flen s.fs k + 63) / 64) (trn (nm, ⟨#[]⟩, 0) s.dir) : Nat) : Int) ≤ r
      rw [trn_eq, if_pos rfl]
      split
      · exact h2
      · have := tks_del (fun k => (Go.Proofs.YtbljooblpfdbiaaGreatDoor.flen s.fs k + 63) / 64) nm s.dir
        have e : del ((nm, (⟨#[]⟩ : ByteArray), (0 : Int)) : CHG).1 s.dir = del nm s.dir := rfl
        rw [e]; omega
theorem DS.Fits.create (h : s.Fits r) (hi : s.Inv) (nm : ByteArray) : (s.create nm).2.Fits r := by
  have hi2 := hi.create nm
  rw [DS.create] at hi2 ⊢; split
  · exact h
  · rename_i h1; split
    · exact h
    · rename_i h2; split
      · exact h
      · rename_i h3; split
        · exact h
        · rename_i h4
          rw [if_neg h1, if_neg h2, if_neg h3, if_neg h4] at hi2
          refine ⟨h.1, ?_⟩
          have hu := h.2
          rw [DS.used_tks hi.ok] at hu
          rw [DS.used_tks hi2.ok]
          have hrn : nm ≠ ⟨#[]⟩ := by
            cases hq : rightN nm with
            | false => exact absurd hq h2
            | true => rw [rightN] at hq; exact (of_decide_eq_true hq).1
          show ((tks (fun k => (Go.Proofs.YtbljooblpfdbiaaGreatDoor.flen (s.fs ++ [([], [])]) k + 63) / 64) (trn (⟨#[]⟩, nm, (s.fs.length : Int)) s.dir) : Nat) : Int) ≤ r
          rw [trn_eq, if_neg hrn, if_pos rfl]
          have a1 := tks_put (fun k => (Go.Proofs.YtbljooblpfdbiaaGreatDoor.flen (s.fs ++ [([], [])]) k + 63) / 64) nm (s.fs.length : Int) s.dir
          have a2 : tks (fun k => (Go.Proofs.YtbljooblpfdbiaaGreatDoor.flen (s.fs ++ [([], [])]) k + 63) / 64) s.dir = tks (fun k => (Go.Proofs.YtbljooblpfdbiaaGreatDoor.flen s.fs k + 63) / 64) s.dir := tks_congr fun p hp => by
            have := hi.ok.dir p hp
            rw [Go.Proofs.YtbljooblpfdbiaaGreatDoor.flen, Go.Proofs.YtbljooblpfdbiaaGreatDoor.flen, List.getD_eq_getElem?_getD, List.getD_eq_getElem?_getD, List.getElem?_append_left Zz]
          have a3 : (Go.Proofs.YtbljooblpfdbiaaGreatDoor.flen (s.fs ++ [([], [])]) (s.fs.length : Int) + 63) / 64 = 0 := by
            rw [Go.Proofs.YtbljooblpfdbiaaGreatDoor.flen, List.getD_eq_getElem?_getD, Int.toNat_natCast, List.getElem?_append_right (Nat.le_refl _), Nat.sub_self]; rfl
          simp only [a3] at a1
          have e : put ((⟨#[]⟩, nm, (s.fs.length : Int)) : CHG).2.1 ((⟨#[]⟩, nm, (s.fs.length : Int)) : CHG).2.2 s.dir = put nm (s.fs.length : Int) s.dir := rfl
          rw [e]; omega
theorem fits_set {f : FILE} {k : Int} {nm : ByteArray} (hi : s.Inv) (ha : asc nm s.dir = some k) (h : ((s.used + (f.1.length + 63) / 64 : Nat) : Int) ≤ r + (((Go.Proofs.YtbljooblpfdbiaaGreatDoor.flen s.fs k + 63) / 64 : Nat) : Int)) : ((tks (fun j => (Go.Proofs.YtbljooblpfdbiaaGreatDoor.flen (s.fs.set k.toNat f) j + 63) / 64) s.dir : Nat) : Int) ≤ r := by
  obtain ⟨hk, hk2, _⟩ := hi.ok.dir _ (asc_some ha)
  have hk : 0 ≤ k := hk
  have hk2 : k < s.fs.length := hk2
  rw [DS.used_tks hi.ok] at h
  have hg : tks (fun j => (Go.Proofs.YtbljooblpfdbiaaGreatDoor.flen (s.fs.set k.toNat f) j + 63) / 64) s.dir = tks (fun j => if j = k then (f.1.length + 63) / 64 else (Go.Proofs.YtbljooblpfdbiaaGreatDoor.flen s.fs j + 63) / 64) s.dir := tks_congr fun p hp => by
    have hp0 := (hi.ok.dir p hp).1
    rw [flen_set _ _ _ _ hp0 Zz]
    by_cases e : p.2 = k
    · rw [if_pos (by rw [e]), if_pos e]
    · rw [if_neg Zz, if_neg e]
  rw [hg]
  have := tks_one (f := fun j => if j = k then (f.1.length + 63) / 64 else (Go.Proofs.YtbljooblpfdbiaaGreatDoor.flen s.fs j + 63) / 64) (g := fun j => (Go.Proofs.YtbljooblpfdbiaaGreatDoor.flen s.fs j + 63) / 64) (k := k) (fun j hj => if_neg hj) hi.vals nm ha
  simp only [if_true] at this
  omega
theorem DS.Fits.sync (h : s.Fits r) (hi : s.Inv) (nm : ByteArray) : (s.sync nm).2.Fits r := by
  have hi2 := hi.sync nm
  rw [DS.sync] at hi2 ⊢; split
  · exact h
  · rename_i h1
    rw [if_neg h1] at hi2
    cases ha : asc nm s.dir with
    | none => exact h
    | some k =>
      rw [ha] at hi2
      refine ⟨h.1, ?_⟩
      rw [DS.used_tks hi2.ok]
      refine fits_set (k := k) hi ha ?_
      have := h.2
      have e : (fat s.fs k).1.length = Go.Proofs.YtbljooblpfdbiaaGreatDoor.flen s.fs k := rfl
      simp only [e]; omega
theorem DS.Fits.write (h : s.Fits r) (hi : s.Inv) (nm : ByteArray) (a : Int) (x : List UInt8) : (s.write nm a x).2.Fits r := by
  have hi2 := hi.write nm a x
  rw [DS.write] at hi2 ⊢; split
  · exact h
  · rename_i h1
    rw [if_neg h1] at hi2
    cases ha : asc nm s.dir with
    | none => exact h
    | some k =>
      rw [ha] at hi2
      simp only at hi2 ⊢
      split
      · exact h
      · rename_i h2
        rw [if_neg h2] at hi2
        split
        · exact h
        · rename_i h3
          rw [if_neg h3] at hi2
          split
          · exact h
          · rename_i h4
            rw [if_neg h4] at hi2
            refine ⟨h.1, ?_⟩
            rw [DS.used_tks hi2.ok]
            refine fits_set (k := k) hi ha ?_
            have hr := h.1
            have e : (fat s.fs k).1.length = Go.Proofs.YtbljooblpfdbiaaGreatDoor.flen s.fs k := rfl
            simp only [secs] at h4
            rw [e] at h4 h2
            simp only []
            rw [wrt_len _ _ _ (by rw [e]; omega), e]
            omega
end
theorem sortB_perm {a b : List ByteArray} (h : a.Perm b) : sortB a = sortB b := by
  rw [sortB, sortB]
  congr 1
  have hp : (a.map fun s => s.data.toList).Perm (b.map fun s => s.data.toList) := h.map _
  have hs := fun l : List (List UInt8) => List.pairwise_mergeSort (le := fun x y : List UInt8 => decide (x ≤ y)) (by intro a b c; simp only [decide_eq_true_eq]; exact fun h1 h2 => List.le_trans h1 h2) (by intro a b; simp only [Bool.or_eq_true, decide_eq_true_eq]; exact List.le_total a b) l
  refine List.Perm.eq_of_pairwise (le := fun x y => decide (x ≤ y) = true) ?_ (hs _) (hs _) (((List.mergeSort_perm _ _).trans hp).trans (List.mergeSort_perm _ _).symm)
  intro x y _ _ h1 h2
  exact List.le_antisymm (of_decide_eq_true h1) (of_decide_eq_true h2)
def KEn : Kd (ByteArray × Int) := Kd.plain 2 (fun x => [.string x.1, .int .i64 x.2]) (fun _ => True) (fun _ => rfl) (fun _ u hu => by simp at hu; rcases hu with rfl | rfl <;> rfl)
def isNm (s : ByteArray) : Bool := decide (1 ≤ s.size ∧ s.size ≤ 64)
def rfind (nm : ByteArray) (l : DIR) : Int := (asc nm l).getD (-1)
def sless (a b : ByteArray) : Bool := Op.bytesLess a.data.toList b.data.toList
def rwo (nm : ByteArray) (l : DIR) : DIR := l.filter fun p => decide (p.1 ≠ nm)
def rins (e : ByteArray × Int) (l : DIR) : DIR := l.takeWhile (fun p => sless p.1 e.1) ++ [e] ++ l.dropWhile (fun p => sless p.1 e.1)
def rwith (e : ByteArray × Int) (l : DIR) : DIR := rins e (rwo e.1 l)
def lput (n : Int) (l : List Int) : List Int := if (l.dropWhile fun x => decide (x < n)).head? = some n then l else l.takeWhile (fun x => decide (x < n)) ++ [n] ++ l.dropWhile (fun x => decide (x < n))
def rapply (c : CHG) (l : DIR) : DIR := (fun l' : DIR => if c.2.1 = ⟨#[]⟩ then l' else rwith (c.2.1, c.2.2) l') (if c.1 = ⟨#[]⟩ then l else rwo c.1 l)
abbrev RF := List UInt8 × List UInt8 × List Int
structure RS where
  rm : Int
  fs : List RF
  dir : DIR
  fx : DIR
  chs : List CHG
  has : Bool
  left : Int
def KRp : Kd Nat := Kd.plain 1 (fun b => [.pointer (some ⟨b, 0, none⟩)]) (fun _ => True) (fun _ => rfl) (fun _ u hu => by simp at hu; subst hu; rfl)
abbrev rkL (rm : Int) (vF vD vX vC : Value) (has : Bool) (left : Int) : List Value := [.int .i64 rm, vF, vD, vX, vC, .bool has, .int .i64 left]
structure FlK (col : Nat → Nat) (w : World) (k p : Nat) (v1 v2 v3 : Value) (f : RF) : Prop where
  B : Blk w p [v1, v2, v3] 147
  c : col p = 4 + 3 * k
  M1 : Mine KB 5 (fun q => col q = 5 + 3 * k) 0 0 w v1 f.1
  M2 : Mine KB 5 (fun q => col q = 6 + 3 * k) 0 0 w v2 f.2.1
  M3 : Mine KI 3 (fun q => col q = 3) 0 0 w v3 f.2.2
structure RkB (col : Nat → Nat) (w : World) (x : Nat) (vF vD vX vC : Value) (pt : List Nat) (t : RS) : Prop where
  B : Blk w x (rkL t.rm vF vD vX vC t.has t.left) 134
  F : Mine KRp 145 (fun q => col q = 2) 0 0 w vF pt
  D : Mine KEn 192 (fun q => col q = 3) 0 0 w vD t.dir
  X : Mine KEn 192 (fun q => col q = 3) 0 0 w vX t.fx
  C : Mine KCh 150 (fun q => col q = 3) 0 0 w vC t.chs
  cx : col x = 1
  lt : ∀ q, col q ≠ 0 → q < w.heap.size
  pl : pt.length = t.fs.length
  fl : ∀ k p f, pt[k]? = some p → t.fs[k]? = some f → ∃ v1 v2 v3, FlK col w k p v1 v2 v3 f
def RkR (col : Nat → Nat) (w : World) (x : Nat) (t : RS) : Prop := ∃ vF vD vX vC pt, RkB col w x vF vD vX vC pt t
theorem RkB.r {col : Nat → Nat} {w : World} {x : Nat} {vF vD vX vC : Value} {pt : List Nat} {t : RS} (h : RkB col w x vF vD vX vC pt t) : RkR col w x t := ⟨vF, vD, vX, vC, pt, h⟩
structure RkP (V : Nat → Prop) (col : Nat → Nat) (w : World) (x : Nat) (vF vD vX vC : Value) (pt : List Nat) (t : RS) : Prop where
  B : ¬ V 1 → Blk w x (rkL t.rm vF vD vX vC t.has t.left) 134
  F : ¬ V 2 → Mine KRp 145 (fun q => col q = 2) 0 0 w vF pt
  D : ¬ V 3 → Mine KEn 192 (fun q => col q = 3) 0 0 w vD t.dir
  X : ¬ V 3 → Mine KEn 192 (fun q => col q = 3) 0 0 w vX t.fx
  C : ¬ V 3 → Mine KCh 150 (fun q => col q = 3) 0 0 w vC t.chs
  cx : col x = 1
  pl : pt.length = t.fs.length
  fl : ∀ k p f, pt[k]? = some p → t.fs[k]? = some f → ¬ V 3 → (∀ j, 4 + 3 * k ≤ j → j ≤ 6 + 3 * k → ¬ V j) → ∃ v1 v2 v3, FlK col w k p v1 v2 v3 f
section
variable {col col' : Nat → Nat} {w w' : World} {x : Nat} {vF vD vX vC : Value} {pt : List Nat} {t : RS}
theorem colr {α : Type} {K : Kd α} {e v0 : Nat} {v : Value} {xs : List α} (h : Mine K e (fun q => col q = v0) 0 0 w v xs) {T : Nat → Prop} (y : Ext T w w') (hc : ∀ q, q < w.heap.size → col' q = col q) (hT : ∀ q, q < w.heap.size → T q → col q ≠ v0) : Mine K e (fun q => col' q = v0) 0 0 w' v xs :=
  ((h.mono (T := fun q => col' q = v0 ∧ q < w.heap.size) (fun q hq h => ⟨(hc q hq).trans h, hq⟩)).ext y Zz (fun q hq ht => hT q hq.2 ht (by rw [← hc q hq.2]; exact hq.1))).mono (fun _ _ h => h.1)
theorem FlK.ext {k p : Nat} {v1 v2 v3 : Value} {f : RF} (h : FlK col w k p v1 v2 v3 f) {T : Nat → Prop} (y : Ext T w w') (hc : ∀ q, q < w.heap.size → col' q = col q) (hT : ∀ q, q < w.heap.size → T q → col q ≠ 3 ∧ col q ≠ 4 + 3 * k ∧ col q ≠ 5 + 3 * k ∧ col q ≠ 6 + 3 * k) : FlK col' w' k p v1 v2 v3 f :=
  ⟨h.B.ext y fun ht => (hT p h.B.lt ht).2.1 h.c, (hc p h.B.lt).trans h.c, colr h.M1 y hc fun q hq ht => (hT q hq ht).2.2.1, colr h.M2 y hc fun q hq ht => (hT q hq ht).2.2.2, colr h.M3 y hc fun q hq ht => (hT q hq ht).1⟩
theorem RkB.part (h : RkB col w x vF vD vX vC pt t) (V : Nat → Prop) {T : Nat → Prop} (y : Ext T w w') (hc : ∀ q, q < w.heap.size → col' q = col q) (hT : ∀ q, q < w.heap.size → T q → V (col q)) : RkP V col' w' x vF vD vX vC pt t := by
  have hk : ∀ v, ¬ V v → ∀ q, q < w.heap.size → T q → col q ≠ v := fun v hv q hq ht e => hv (by have := hT q hq ht; rwa [e] at this)
  refine ⟨fun v => h.B.ext y fun ht => hk 1 v _ h.B.lt ht h.cx, fun v => colr h.F y hc (hk 2 v), fun v => colr h.D y hc (hk 3 v), fun v => colr h.X y hc (hk 3 v), fun v => colr h.C y hc (hk 3 v), (hc x h.B.lt).trans h.cx, h.pl, fun k p f h1 h2 v3 hv => ?_⟩
  obtain ⟨a1, a2, a3, hf⟩ := h.fl k p f h1 h2
  exact ⟨a1, a2, a3, hf.ext y hc fun q hq ht => ⟨hk 3 v3 q hq ht, hk _ (hv _ Zz Zz) q hq ht, hk _ (hv _ Zz Zz) q hq ht, hk _ (hv _ Zz Zz) q hq ht⟩⟩
theorem RkB.ext (h : RkB col w x vF vD vX vC pt t) {T : Nat → Prop} (y : Ext T w w') (hT : ∀ q, col q ≠ 0 → ¬ T q) : RkB col w' x vF vD vX vC pt t := by
  have p := h.part (fun v => v = 0) y (fun _ _ => rfl) (fun q _ t => Classical.byContradiction fun e => hT q e t)
  exact ⟨p.B (by decide), p.F (by decide), p.D (by decide), p.X (by decide), p.C (by decide), p.cx, fun q hq => Nat.lt_of_lt_of_le (h.lt q hq) y.size, p.pl, fun k q f h1 h2 => p.fl k q f h1 h2 (by decide) (fun j _ _ => by omega)⟩
theorem RkB.keep (h : RkB col w x vF vD vX vC pt t) (y : Keep w w') : RkB col w' x vF vD vX vC pt t := h.ext y fun _ _ t => t
theorem RkR.ext (h : RkR col w x t) {T : Nat → Prop} (y : Ext T w w') (hT : ∀ q, col q ≠ 0 → ¬ T q) : RkR col w' x t := let ⟨vF, vD, vX, vC, pt, h⟩ := h; ⟨vF, vD, vX, vC, pt, h.ext y hT⟩
theorem RkR.keep (h : RkR col w x t) (y : Keep w w') : RkR col w' x t := h.ext y fun _ _ t => t
theorem RkR.lt (h : RkR col w x t) : ∀ q, col q ≠ 0 → q < w.heap.size := let ⟨_, _, _, _, _, h⟩ := h; h.lt
theorem RkR.cx (h : RkR col w x t) : col x = 1 := let ⟨_, _, _, _, _, h⟩ := h; h.cx
end
section
variable {col : Nat → Nat} {w w' : World} {x : Nat} {vF vD vX vC : Value} {pt : List Nat} {t : RS}
end
def RS.down (t : RS) : Bool := t.has && decide (t.left = 0)
def RS.did (t : RS) : RS := { t with left := if t.has = true then t.left - 1 else t.left }
structure RS.Ok (t : RS) : Prop where
  rm : 1 ≤ t.rm ∧ t.rm ≤ 1048576
  dir : ∀ p, p ∈ t.dir → 0 ≤ p.2 ∧ p.2 < t.fs.length
  fx : ∀ p, p ∈ t.fx → 0 ≤ p.2 ∧ p.2 < t.fs.length
  chs : ∀ c, c ∈ t.chs → c.1 = ⟨#[]⟩ → 0 ≤ c.2.2 ∧ c.2.2 < t.fs.length
  fs : ∀ f, f ∈ t.fs → f.1.length ≤ 1048576 ∧ f.2.1.length ≤ 1048576 ∧ f.2.2.length ≤ 16384 ∧ ∀ s, s ∈ f.2.2 → 0 ≤ s ∧ s < 16384
  few : t.dir.length ≤ 256
  fewx : t.fx.length ≤ 256
  many : t.fs.length ≤ 50000 ∧ t.chs.length ≤ 50000
  left : 0 ≤ t.left ∧ t.left ≤ 1048576
def RS.note (c : CHG) (t : RS) : RS := { t with dir := rapply c t.dir, chs := t.chs ++ [c] }
def RS.delete (nm : ByteArray) (t : RS) : Int × RS := if t.down = true then (54, t) else if rfind nm t.dir < 0 then (52, t) else (0, (t.note (nm, ⟨#[]⟩, 0)).did)
def RS.fuse (n : Int) (t : RS) : Int × RS := if n < 0 ∨ 1048576 < n then (5, t) else (0, { t with has := true, left := n })
def RS.create (nm : ByteArray) (t : RS) : Int × RS := if t.down = true then (54, t) else if isNm nm = false then (51, t) else if 0 ≤ rfind nm t.dir then (50, t) else if 256 ≤ t.dir.length then (3, t)
  else (0, (({ t with fs := t.fs ++ [([], [], [])] } : RS).note (⟨#[]⟩, nm, (t.fs.length : Int))).did)
def rsec (n : Nat) : Nat := (n + 63) / 64
def rfat (t : RS) (k : Int) : RF := t.fs.getD k.toNat ([], [], [])
theorem rfat_at {t : RS} {k : Int} {f : RF} (h : t.fs[k.toNat]? = some f) : rfat t k = f := by rw [rfat, List.getD_eq_getElem?_getD, h]; rfl
theorem RkB.at_ {col : Nat → Nat} {x : Nat} {vF vD vX vC : Value} {pt : List Nat} {t : RS} {w : World} (h : RkB col w x vF vD vX vC pt t) (hok : t.Ok) {k : Int} (hk : 0 ≤ k ∧ k < t.fs.length) : ∃ p f v1 v2 v3, pt[k.toNat]? = some p ∧ t.fs[k.toNat]? = some f ∧ FlK col w k.toNat p v1 v2 v3 f := by
  have hpl := h.pl
  obtain ⟨p, hp⟩ : ∃ p, pt[k.toNat]? = some p := ⟨pt[k.toNat]'Zz, List.getElem?_eq_getElem _⟩
  obtain ⟨f, hf⟩ : ∃ f, t.fs[k.toNat]? = some f := ⟨t.fs[k.toNat]'Zz, List.getElem?_eq_getElem _⟩
  obtain ⟨v1, v2, v3, hfl⟩ := h.fl _ p f hp hf
  exact ⟨p, f, v1, v2, v3, hp, hf, hfl⟩
def RS.sizeOf (nm : ByteArray) (t : RS) : Int × Int := if rfind nm t.dir < 0 then (0, 52) else (((rfat t (rfind nm t.dir)).1.length : Int), 0)
def RS.read (nm : ByteArray) (a n : Int) (t : RS) : List UInt8 × Int := if rfind nm t.dir < 0 then ([], 52) else if a < 0 ∨ n < 0 ∨ ((rfat t (rfind nm t.dir)).1.length : Int) < a ∨ ((rfat t (rfind nm t.dir)).1.length : Int) - a < n then ([], 5) else (((rfat t (rfind nm t.dir)).1.drop a.toNat).take n.toNat, 0)
def rcost (t : RS) (l : DIR) : Nat := (l.map fun e => rsec (rfat t e.2).1.length).sum
def RS.used (t : RS) : Nat := rcost t t.dir
def RS.sync (nm : ByteArray) (t : RS) : Int × RS := if t.down = true then (54, t) else if rfind nm t.dir < 0 then (52, t) else (0, ({ t with fs := t.fs.set (rfind nm t.dir).toNat ((rfat t (rfind nm t.dir)).1, (rfat t (rfind nm t.dir)).1, []) } : RS).did)
def rpad (b : List UInt8) (a n : Nat) : List UInt8 := b ++ List.replicate (max b.length (a + n) - b.length) 0
def rput (b : List UInt8) (a : Nat) (y : List UInt8) : List UInt8 := b.take a ++ y ++ b.drop (a + y.length)
def rwrt (b : List UInt8) (a : Nat) (y : List UInt8) : List UInt8 := rput (rpad b a y.length) a y
def rmark : Nat → Nat → List Int → List Int
  | _, 0, l => l
  | s, n + 1, l => rmark (s + 1) n (lput (s : Int) l)
def rtouch (a n : Nat) : Nat := if n = 0 then 0 else rsec (a + n) - a / 64
def RS.write (nm : ByteArray) (a : Int) (y : List UInt8) (t : RS) : Int × RS := if t.down = true then (54, t) else if rfind nm t.dir < 0 then (52, t)
  else if a < 0 ∨ ((rfat t (rfind nm t.dir)).1.length : Int) < a then (5, t) else if 1048576 - a < (y.length : Int) then (2, t)
  else if t.rm < (t.used : Int) - (rsec (rfat t (rfind nm t.dir)).1.length : Int) + (rsec (max (rfat t (rfind nm t.dir)).1.length (a.toNat + y.length)) : Int) then (53, t)
  else (0, ({ t with fs := t.fs.set (rfind nm t.dir).toNat (rwrt (rfat t (rfind nm t.dir)).1 a.toNat y, (rfat t (rfind nm t.dir)).2.1, rmark (a.toNat / 64) (rtouch a.toNat y.length) (rfat t (rfind nm t.dir)).2.2) } : RS).did)
def nfold (l : List Int) (vs : List Int) : List Int := vs.foldl (fun l v => lput v l) l
def rnew (l : List CHG) : List Int := (l.filter fun c => decide (c.1 = ⟨#[]⟩)).map fun c => c.2.2
def RS.near (t : RS) : List Int := nfold (nfold [] (t.fx.map (·.2))) (rnew t.chs)
def rls (t : RS) (l : List Int) : Nat := (l.map fun k => (rfat t k).2.2.length).sum
def rcn (t : RS) (l : List Int) : Nat := (l.map fun k => if (rfat t k).1.length ≠ (rfat t k).2.1.length then 1 else 0).sum
def RS.loose (t : RS) : Nat × Nat × Nat := (t.chs.length, rls t t.near, rcn t t.near)
theorem lput_mem {k x : Int} {l : List Int} (h : x ∈ lput k l) : x = k ∨ x ∈ l := by
  rw [lput] at h
  split at h
  · exact .inr h
  · rcases List.mem_append.1 h with h | h
    · rcases List.mem_append.1 h with h | h
      · exact .inr ((List.takeWhile_sublist _).subset h)
      · exact .inl (List.mem_singleton.1 h)
    · exact .inr ((List.dropWhile_sublist _).subset h)
theorem nfold_mem {x : Int} : ∀ {vs l : List Int}, x ∈ nfold l vs → x ∈ l ∨ x ∈ vs
  | [], _, h => .inl h
  | v :: vs, l, h => by
    rcases nfold_mem (vs := vs) (l := lput v l) h with h | h
    · rcases lput_mem h with h | h
      · exact .inr (by rw [h]; exact List.mem_cons_self)
      · exact .inl h
    · exact .inr (List.mem_cons_of_mem _ h)
theorem rnear_ok {t : RS} (hok : t.Ok) {k : Int} (h : k ∈ t.near) : 0 ≤ k ∧ k < t.fs.length := by
  rcases nfold_mem h with h | h
  · rcases nfold_mem h with h | h
    · cases h
    · obtain ⟨p, hp, rfl⟩ := List.mem_map.1 h
      exact hok.fx p hp
  · obtain ⟨c, hc, rfl⟩ := List.mem_map.1 h
    obtain ⟨h1, h2⟩ := List.mem_filter.1 hc
    exact hok.chs c h1 (by simpa using h2)
theorem rbl_eq : ∀ (x y : List UInt8), Op.bytesLess x y = decide (x < y)
  | [], [] => by simp [Op.bytesLess]
  | _ :: _, [] => by simp [Op.bytesLess]
  | [], _ :: _ => by simp [Op.bytesLess]
  | a :: x, b :: y => by
    have h : (a :: x < b :: y) ↔ (a < b ∨ a = b ∧ x < y) := List.cons_lt_cons_iff
    rw [Op.bytesLess, rbl_eq x y, show decide (a :: x < b :: y) = decide (a < b ∨ a = b ∧ x < y) from decide_eq_decide.2 h, Bool.decide_or, Bool.decide_and]; rfl
theorem sless_lt (a b : ByteArray) : sless a b = decide (a.data.toList < b.data.toList) := rbl_eq _ _
theorem sl_irr (a : ByteArray) : sless a a = false := by rw [sless_lt]; exact decide_eq_false (List.lt_irrefl _)
theorem sl_trans {a b c : ByteArray} (h1 : sless a b = true) (h2 : sless b c = true) : sless a c = true := by
  rw [sless_lt] at *
  exact decide_eq_true (List.lt_trans (of_decide_eq_true h1) (of_decide_eq_true h2))
theorem sl_tri {a b : ByteArray} (h1 : sless a b = false) (h2 : a ≠ b) : sless b a = true := by
  rw [sless_lt] at *
  have h3 : ¬ a.data.toList < b.data.toList := of_decide_eq_false h1
  refine decide_eq_true ?_
  rcases Classical.em (b.data.toList < a.data.toList) with h | h
  · exact h
  · exfalso
    have e : a.data.toList = b.data.toList := List.le_antisymm (List.not_lt.1 h) (List.not_lt.1 h3)
    apply h2
    cases a with | mk a => cases b with | mk b => exact congrArg _ (Array.toList_inj.1 e)
def Srtd (l : DIR) : Prop := l.Pairwise fun p q => sless p.1 q.1 = true
theorem Srtd.nd {l : DIR} (h : Srtd l) : (l.map (·.1)).Nodup := by
  rw [List.Nodup, List.pairwise_map]
  exact h.imp fun {p q} hpq e => by rw [e, sl_irr] at hpq; exact absurd hpq (by decide)
theorem Srtd.rwo {l : DIR} (h : Srtd l) (nm : ByteArray) : Srtd (rwo nm l) := h.sublist List.filter_sublist
theorem asc_rwo (nm x : ByteArray) : ∀ l : DIR, asc x (rwo nm l) = if x = nm then none else asc x l
  | [] => by simp [rwo, asc]
  | (a, u) :: l => by
    have ih := asc_rwo nm x l
    by_cases ha : a = nm
    · rw [rwo, List.filter_cons_of_neg (by simpa using ha), ← rwo, ih, asc]
      by_cases hx : x = nm
      · rw [if_pos hx, if_pos hx]
      · rw [if_neg hx, if_neg hx, if_neg (by rw [ha]; exact hx)]
    · rw [rwo, List.filter_cons_of_pos (by simpa using ha), ← rwo, asc, ih, asc]
      by_cases hx : x = nm
      · rw [if_pos hx, if_pos hx, if_neg (by rw [hx]; exact fun e => ha e.symm)]
      · rw [if_neg hx, if_neg hx]
theorem asc_ins (e : ByteArray × Int) (x : ByteArray) : ∀ l : DIR, e.1 ∉ l.map (·.1) → asc x (rins e l) = if x = e.1 then some e.2 else asc x l
  | [], _ => by simp [rins, asc]
  | (a, u) :: l, h => by
    have ha : e.1 ≠ a := fun q => h (by rw [q]; exact List.mem_cons_self)
    have ih := asc_ins e x l (fun q => h (List.mem_cons_of_mem _ q))
    by_cases hs : sless a e.1 = true
    · have e1 : rins e ((a, u) :: l) = (a, u) :: rins e l := by simp [rins, hs]
      rw [e1, asc, ih, asc]
      by_cases hx : x = e.1
      · rw [if_pos hx, if_pos hx, if_neg (by rw [hx]; exact ha)]
      · rw [if_neg hx, if_neg hx]
    · have e1 : rins e ((a, u) :: l) = e :: (a, u) :: l := by simp [rins, hs]
      rw [e1]; rfl
theorem Srtd.ins {e : ByteArray × Int} : ∀ {l : DIR}, Srtd l → e.1 ∉ l.map (·.1) → Srtd (rins e l)
  | [], _, _ => by simp [rins, Srtd]
  | (a, u) :: l, h, hn => by
    have ha : a ≠ e.1 := fun q => hn (by rw [← q]; exact List.mem_cons_self)
    obtain ⟨h1, h2⟩ := List.pairwise_cons.1 h
    by_cases hs : sless a e.1 = true
    · have e1 : rins e ((a, u) :: l) = (a, u) :: rins e l := by simp [rins, hs]
      rw [e1]
      refine List.pairwise_cons.2 ⟨fun q hq => ?_, Srtd.ins h2 (fun q => hn (List.mem_cons_of_mem _ q))⟩
      have hq' : q = e ∨ q ∈ l := by
        rcases List.mem_append.1 hq with hq | hq
        · rcases List.mem_append.1 hq with hq | hq
          · exact .inr ((List.takeWhile_sublist _).subset hq)
          · exact .inl (List.mem_singleton.1 hq)
        · exact .inr ((List.dropWhile_sublist _).subset hq)
      rcases hq' with rfl | hq'
      · exact hs
      · exact h1 q hq'
    · have e1 : rins e ((a, u) :: l) = e :: (a, u) :: l := by simp [rins, hs]
      rw [e1]
      have hea : sless e.1 a = true := sl_tri (by simpa using hs) ha
      refine List.pairwise_cons.2 ⟨fun q hq => ?_, h⟩
      rcases List.mem_cons.1 hq with rfl | hq
      · exact hea
      · exact sl_trans hea (h1 q hq)
theorem rwo_out (nm : ByteArray) (l : DIR) : nm ∉ (rwo nm l).map (·.1) := fun h => by
  obtain ⟨p, hp, e⟩ := List.mem_map.1 h
  have := (List.mem_filter.1 hp).2
  simp at this
  exact this e
def DirT (d e : DIR) : Prop := (∀ x, asc x e = asc x d) ∧ Srtd e
theorem DirT.nil : DirT [] [] := ⟨fun _ => rfl, List.Pairwise.nil⟩
theorem DirT.del {d e : DIR} (h : DirT d e) (hd : (d.map (·.1)).Nodup) (nm : ByteArray) : DirT (del nm d) (rwo nm e) := ⟨fun x => by rw [asc_rwo, asc_del hd, h.1], h.2.rwo nm⟩
theorem DirT.put {d e : DIR} (h : DirT d e) (nm : ByteArray) (k : Int) : DirT (put nm k d) (rwith (nm, k) e) :=
  ⟨fun x => by rw [rwith, asc_ins _ _ _ (rwo_out nm e), asc_rwo, asc_put, h.1]; by_cases hx : x = nm <;> simp [hx], (h.2.rwo nm).ins (rwo_out nm e)⟩
theorem DirT.trn {d e : DIR} (h : DirT d e) (hd : (d.map (·.1)).Nodup) (c : CHG) : DirT (trn c d) (rapply c e) := by
  have h1 : DirT (if c.1 = ⟨#[]⟩ then d else X.del c.1 d) (if c.1 = ⟨#[]⟩ then e else Go.Proofs.YtbljooblpfdbiaaGreatDoor.rwo c.1 e) := by
    split
    · exact h
    · exact h.del hd c.1
  rw [trn_eq, rapply]
  simp only
  split
  · exact h1
  · exact h1.put _ _
abbrev Inc (l : List Int) : Prop := l.Pairwise (· < ·)
theorem inc_ext : ∀ {a b : List Int}, Inc a → Inc b → (∀ x, x ∈ a ↔ x ∈ b) → a = b
  | [], [], _, _, _ => rfl
  | [], y :: b, _, _, h => by have := (h y).2 List.mem_cons_self; cases this
  | x :: a, [], _, _, h => by have := (h x).1 List.mem_cons_self; cases this
  | x :: a, y :: b, ha, hb, h => by
    obtain ⟨a1, a2⟩ := List.pairwise_cons.1 ha
    obtain ⟨b1, b2⟩ := List.pairwise_cons.1 hb
    have hxy : x = y := by
      rcases List.mem_cons.1 ((h x).1 List.mem_cons_self) with e | e
      · exact e
      · rcases List.mem_cons.1 ((h y).2 List.mem_cons_self) with e' | e'
        · exact e'.symm
        · have := b1 x e; have := a1 y e'; omega
    subst hxy
    congr 1
    refine inc_ext a2 b2 fun z => ⟨fun hz => ?_, fun hz => ?_⟩
    · have := a1 z hz
      rcases List.mem_cons.1 ((h z).1 (List.mem_cons_of_mem _ hz)) with e | e
      · omega
      · exact e
    · have := b1 z hz
      rcases List.mem_cons.1 ((h z).2 (List.mem_cons_of_mem _ hz)) with e | e
      · omega
      · exact e
theorem lput_has (k : Int) : ∀ l : List Int, k ∈ lput k l := fun l => by
  rw [lput]
  split
  · rename_i h
    exact (List.dropWhile_sublist _).subset (List.mem_of_mem_head? h)
  · exact List.mem_append_left _ (List.mem_append_right _ List.mem_cons_self)
theorem lput_old {k x : Int} {l : List Int} (h : x ∈ l) : x ∈ lput k l := by
  rw [lput]
  split
  · exact h
  · rw [← List.takeWhile_append_dropWhile (p := fun x : Int => decide (x < k)) (l := l)] at h
    rcases List.mem_append.1 h with h | h
    · exact List.mem_append_left _ (List.mem_append_left _ h)
    · exact List.mem_append_right _ h
theorem lput_iff {k x : Int} {l : List Int} : x ∈ lput k l ↔ x = k ∨ x ∈ l := ⟨lput_mem, fun h => h.elim (fun e => by rw [e]; exact lput_has k l) lput_old⟩
theorem lput_cons_lt {k a : Int} {l : List Int} (h : a < k) : lput k (a :: l) = a :: lput k l := by
  rw [lput, lput]
  have h1 : (a :: l).dropWhile (fun x => decide (x < k)) = l.dropWhile (fun x => decide (x < k)) := by simp [h]
  have h2 : (a :: l).takeWhile (fun x => decide (x < k)) = a :: l.takeWhile (fun x => decide (x < k)) := by simp [h]
  rw [h1, h2]
  split <;> simp
theorem lput_inc {k : Int} : ∀ {l : List Int}, Inc l → Inc (lput k l)
  | [], _ => by simp [lput, Inc]
  | a :: l, h => by
    obtain ⟨h1, h2⟩ := List.pairwise_cons.1 h
    by_cases ha : a < k
    · rw [lput_cons_lt ha]
      refine List.pairwise_cons.2 ⟨fun x hx => ?_, lput_inc h2⟩
      rcases lput_mem hx with e | e
      · rw [e]; exact ha
      · exact h1 x e
    · rw [lput]
      have e1 : (a :: l).dropWhile (fun x => decide (x < k)) = a :: l := by simp [ha]
      have e2 : (a :: l).takeWhile (fun x => decide (x < k)) = [] := by simp [ha]
      rw [e1, e2]
      split
      · exact h
      · rename_i hh
        have hak : a ≠ k := fun e => hh (by rw [e]; rfl)
        refine List.pairwise_cons.2 ⟨fun x hx => ?_, h⟩
        rcases List.mem_cons.1 hx with e | e
        · omega
        · have := h1 x e; omega
theorem nfold_inc : ∀ {vs l : List Int}, Inc l → Inc (nfold l vs)
  | [], _, h => h
  | v :: vs, l, h => nfold_inc (vs := vs) (lput_inc h)
theorem nfold_iff {x : Int} : ∀ {vs l : List Int}, x ∈ nfold l vs ↔ x ∈ l ∨ x ∈ vs
  | [], l => by simp [nfold]
  | v :: vs, l => by
    have ih := nfold_iff (x := x) (vs := vs) (l := lput v l)
    rw [show nfold l (v :: vs) = nfold (lput v l) vs from rfl, ih, lput_iff, List.mem_cons]
    constructor
    · rintro ((h | h) | h)
      · exact .inr (.inl h)
      · exact .inl h
      · exact .inr (.inr h)
    · rintro (h | h | h)
      · exact .inl (.inr h)
      · exact .inl (.inl h)
      · exact .inr h
theorem same_vals {d e : DIR} (h : DirT d e) (hd : (d.map (·.1)).Nodup) (k : Int) : k ∈ e.map (·.2) ↔ k ∈ d.map (·.2) := by
  constructor
  · intro hk
    obtain ⟨p, hp, rfl⟩ := List.mem_map.1 hk
    have := asc_mem h.2.nd (x := p.1) (u := p.2) hp
    rw [h.1] at this
    exact List.mem_map.2 ⟨_, asc_some this, rfl⟩
  · intro hk
    obtain ⟨p, hp, rfl⟩ := List.mem_map.1 hk
    have := asc_mem hd (x := p.1) (u := p.2) hp
    rw [← h.1] at this
    exact List.mem_map.2 ⟨_, asc_some this, rfl⟩
theorem near_tie {s : DS} {t : RS} (hf : DirT s.fx t.fx) (hn : (s.fx.map (·.1)).Nodup) (hc : t.chs = s.chs) : t.near = s.near := by
  refine inc_ext (nfold_inc (nfold_inc List.Pairwise.nil)) (nrs_inc _) fun x => ?_
  rw [RS.near, nfold_iff, nfold_iff, DS.near, nrs_mem, List.mem_append, same_vals hf hn, hc]
  constructor
  · rintro ((h | h) | h)
    · cases h
    · exact .inl h
    · exact .inr h
  · rintro (h | h)
    · exact .inl (.inr h)
    · exact .inr h
structure Lo (l : List Int) (k : Int) (ls : LS) (n : Nat) : Prop where
  inc : Inc l
  mem : ∀ i, i ∈ l ↔ (asc (k, i) ls).getD false = true
  rng : ∀ i, i ∈ l → 0 ≤ i ∧ i < (rsec n : Int)
theorem Lo.spots {l : List Int} {k : Int} {ls : LS} {n : Nat} (h : Lo l k ls n) : l = spotL ls k (rsec n) := by
  refine inc_ext h.inc ?_ fun x => ?_
  · rw [spotL, Inc, List.pairwise_map]
    exact (List.Pairwise.sublist List.filter_sublist List.pairwise_lt_range).imp fun h => by omega
  · rw [spotL, List.mem_map]
    constructor
    · intro hx
      obtain ⟨h1, h2⟩ := h.rng x hx
      refine ⟨x.toNat, List.mem_filter.2 ⟨List.mem_range.2 Zz, ?_⟩, by omega⟩
      have := (h.mem x).1 hx
      rw [show ((x.toNat : Nat) : Int) = x by omega]
      exact this
    · rintro ⟨j, hj, rfl⟩
      exact (h.mem _).2 (List.mem_filter.1 hj).2
theorem Lo.more {l : List Int} {k : Int} {ls : LS} {n n' : Nat} (h : Lo l k ls n) (hn : n ≤ n') : Lo l k ls n' := ⟨h.inc, h.mem, fun i hi => by have := h.rng i hi; rw [rsec] at *; omega⟩
theorem Lo.put {l : List Int} {k : Int} {ls : LS} {n s : Nat} (h : Lo l k ls n) (hs : s < rsec n) : Lo (lput (s : Int) l) k (X.put (k, (s : Int)) true ls) n := by
  refine ⟨lput_inc h.inc, fun i => ?_, fun i hi => ?_⟩
  · rw [lput_iff, asc_put, h.mem]
    by_cases hi : i = (s : Int)
    · simp [hi]
    · have : ¬ ((k, i) = (k, (s : Int))) := fun e => hi (by injection e)
      simp [hi, this]
  · rcases lput_mem hi with e | e
    · omega
    · exact h.rng i e
theorem Lo.mark {k : Int} {n : Nat} : ∀ (c s : Nat) {l : List Int} {ls : LS}, Lo l k ls n → s + c ≤ rsec n → Lo (rmark s c l) k (markL k s c ls) n
  | 0, _, _, _, h, _ => h
  | c + 1, s, l, ls, h, hs => Lo.mark c (s + 1) (h.put (s := s) Zz) Zz
theorem markL_asc {k k' i : Int} (hk : k' ≠ k) : ∀ (c s : Nat) (ls : LS), asc (k', i) (markL k s c ls) = asc (k', i) ls
  | 0, _, _ => rfl
  | c + 1, s, ls => by
    rw [markL, markL_asc hk c, asc_put, if_neg (fun e => hk (by injection e))]
theorem Lo.other {l : List Int} {k k' : Int} {ls : LS} {n : Nat} (h : Lo l k' ls n) (hk : k' ≠ k) (c s : Nat) : Lo l k' (markL k s c ls) n := ⟨h.inc, fun i => by rw [markL_asc hk]; exact h.mem i, h.rng⟩
theorem filt_asc (k : Int) (x : Int × Int) : ∀ ls : LS, asc x (ls.filter fun p => decide (p.1.1 ≠ k)) = if x.1 = k then none else asc x ls
  | [] => by simp [asc]
  | (a, u) :: ls => by
    have ih := filt_asc k x ls
    by_cases ha : a.1 = k
    · rw [List.filter_cons_of_neg (by simpa using ha), ih, asc]
      by_cases hx : x.1 = k
      · rw [if_pos hx, if_pos hx]
      · rw [if_neg hx, if_neg hx, if_neg (fun e => hx (by rw [e]; exact ha))]
    · rw [List.filter_cons_of_pos (by simpa using ha), asc, ih, asc]
      by_cases hx : x.1 = k
      · rw [if_pos hx, if_pos hx, if_neg (fun e => ha (by rw [← e]; exact hx))]
      · rw [if_neg hx, if_neg hx]
theorem Lo.synced (k : Int) (ls : LS) (n : Nat) : Lo [] k (ls.filter fun p => decide (p.1.1 ≠ k)) n := ⟨List.Pairwise.nil, fun i => by rw [filt_asc, if_pos rfl]; simp, fun i h => by cases h⟩
theorem Lo.kept {l : List Int} {k k' : Int} {ls : LS} {n : Nat} (h : Lo l k' ls n) (hk : k' ≠ k) : Lo l k' (ls.filter fun p => decide (p.1.1 ≠ k)) n := ⟨h.inc, fun i => by rw [filt_asc, if_neg hk]; exact h.mem i, h.rng⟩
structure Tie (s : DS) (t : RS) : Prop where
  rm : t.rm = s.rm
  has : t.has = s.fu
  left : t.left = s.lf
  chs : t.chs = s.chs
  len : t.fs.length = s.fs.length
  fs : ∀ (k : Nat) f g, s.fs[k]? = some f → t.fs[k]? = some g → g.1 = f.1 ∧ g.2.1 = f.2 ∧ Lo g.2.2 (k : Int) s.ls f.1.length
  dir : DirT s.dir t.dir
  fx : DirT s.fx t.fx
  out : ∀ p, p ∈ s.ls → p.1.1 < (s.fs.length : Int)
section
variable {s : DS} {t : RS}
theorem Tie.down (h : Tie s t) (hok : s.Ok) : t.down = s.down := by
  have := hok.lf
  rw [RS.down, DS.down, h.has, h.left, show decide (s.lf = 0) = decide (s.lf ≤ 0) from decide_eq_decide.2 Zz]
theorem Tie.find_none (h : Tie s t) {nm : ByteArray} (ha : asc nm s.dir = none) : rfind nm t.dir = -1 := by rw [rfind, h.dir.1, ha]; rfl
theorem Tie.find_some (h : Tie s t) {nm : ByteArray} {k : Int} (ha : asc nm s.dir = some k) : rfind nm t.dir = k := by rw [rfind, h.dir.1, ha]; rfl
theorem isNm_eq (nm : ByteArray) : isNm nm = rightN nm := by
  rw [isNm, rightN]
  refine decide_eq_decide.2 ⟨fun h => ⟨fun e => ?_, h.2⟩, fun h => ⟨?_, h.2⟩⟩
  · rw [e] at h; exact absurd h.1 (by decide)
  · refine Nat.pos_of_ne_zero fun e => h.1 ?_
    cases nm with | mk d =>
    have : d.size = 0 := e
    exact congrArg _ (Array.eq_empty_of_size_eq_zero this)
theorem keys_perm {d e : DIR} (h : DirT d e) (hd : (d.map (·.1)).Nodup) : (e.map (·.1)).Perm (d.map (·.1)) :=
  (List.perm_ext_iff_of_nodup h.2.nd hd).2 fun x => by
    constructor
    · intro hx
      refine Classical.byContradiction fun hn => ?_
      have h1 : asc x d = none := asc_none.2 fun p hp e => hn (List.mem_map.2 ⟨p, hp, e⟩)
      rw [← h.1] at h1
      obtain ⟨p, hp, e⟩ := List.mem_map.1 hx
      exact asc_none.1 h1 p hp e
    · intro hx
      refine Classical.byContradiction fun hn => ?_
      have h1 : asc x e = none := asc_none.2 fun p hp e => hn (List.mem_map.2 ⟨p, hp, e⟩)
      rw [h.1] at h1
      obtain ⟨p, hp, e⟩ := List.mem_map.1 hx
      exact asc_none.1 h1 p hp e
theorem Tie.dlen (h : Tie s t) (hok : s.Ok) : t.dir.length = s.dir.length := by
  have := (keys_perm h.dir hok.nd).length_eq
  rwa [List.length_map, List.length_map] at this
theorem Tie.flen (h : Tie s t) (k : Int) : (rfat t k).1 = (fat s.fs k).1 ∧ (rfat t k).2.1 = (fat s.fs k).2 := by
  rw [rfat, Go.Proofs.YtbljooblpfdbiaaGreatDoor.fat, List.getD_eq_getElem?_getD, List.getD_eq_getElem?_getD]
  by_cases hk : k.toNat < s.fs.length
  · obtain ⟨f, hf⟩ : ∃ f, s.fs[k.toNat]? = some f := ⟨_, List.getElem?_eq_getElem hk⟩
    obtain ⟨g, hg⟩ : ∃ g, t.fs[k.toNat]? = some g := ⟨_, List.getElem?_eq_getElem (by rw [h.len]; exact hk)⟩
    rw [hf, hg]
    obtain ⟨h1, h2, _⟩ := h.fs _ f g hf hg
    exact ⟨h1, h2⟩
  · rw [List.getElem?_eq_none (show s.fs.length ≤ k.toNat by omega), List.getElem?_eq_none (show t.fs.length ≤ k.toNat by rw [h.len]; omega)]; exact ⟨rfl, rfl⟩
theorem sum_perm {a b : List Nat} (h : a.Perm b) : a.sum = b.sum := h.sum_nat
theorem Tie.used (h : Tie s t) (hok : s.Ok) : t.used = s.used := by
  have e : ∀ l : DIR, (∀ p, p ∈ l → asc p.1 t.dir = some p.2) → rcost t l = ((l.map (·.1)).map (cost (Go.Proofs.YtbljooblpfdbiaaGreatDoor.flen s.fs) s.dir)).sum := by
    intro l hl
    rw [rcost, List.map_map]
    congr 1
    refine List.map_congr_left fun p hp => ?_
    have h1 := hl p hp
    rw [h.dir.1] at h1
    show rsec (rfat t p.2).1.length = cost (Go.Proofs.YtbljooblpfdbiaaGreatDoor.flen s.fs) s.dir p.1
    rw [cost, h1, (h.flen p.2).1]; rfl
  rw [RS.used, e t.dir (fun p hp => asc_mem h.dir.2.nd hp), DS.used, costs]
  exact sum_perm ((keys_perm h.dir hok.nd).map _)
end
def Both (a : Int × DS) (b : Int × RS) : Prop := b.1 = a.1 ∧ Tie a.2 b.2
section
variable {s : DS} {t : RS}
theorem Tie.did (h : Tie s t) : Tie s.did t.did := ⟨h.rm, h.has, by rw [RS.did, DS.did]; simp only [h.has, h.left], h.chs, h.len, h.fs, h.dir, h.fx, h.out⟩
theorem Tie.note (h : Tie s t) (hn : (s.dir.map (·.1)).Nodup) (c : CHG) : Tie (s.note c) (t.note c) := ⟨h.rm, h.has, h.left, by rw [RS.note, DS.note]; simp only [h.chs], h.len, h.fs, h.dir.trn hn c, h.fx, h.out⟩
theorem Tie.fuse (h : Tie s t) (n : Int) : Both (s.fuse n) (t.fuse n) := by
  rw [DS.fuse, RS.fuse]
  split
  · exact ⟨rfl, h⟩
  · exact ⟨rfl, h.rm, rfl, rfl, h.chs, h.len, h.fs, h.dir, h.fx, h.out⟩
theorem Tie.delete (h : Tie s t) (hok : s.Ok) (nm : ByteArray) : Both (s.delete nm) (t.delete nm) := by
  rw [DS.delete, RS.delete, h.down hok]
  split
  · exact ⟨rfl, h⟩
  · cases ha : asc nm s.dir with
    | none => rw [if_pos rfl, h.find_none ha, if_pos (by decide)]; exact ⟨rfl, h⟩
    | some k =>
      have hk := (hok.dir _ (asc_some ha)).1
      have hk : 0 ≤ k := hk
      rw [if_neg (by simp), h.find_some ha, if_neg Zz]; exact ⟨rfl, (h.note hok.nd _).did⟩
theorem Tie.create (h : Tie s t) (hok : s.Ok) (nm : ByteArray) : Both (s.create nm) (t.create nm) := by
  rw [DS.create, RS.create, h.down hok, isNm_eq, h.dlen hok]
  split
  · exact ⟨rfl, h⟩
  · split
    · exact ⟨rfl, h⟩
    · cases ha : asc nm s.dir with
      | some k =>
        have hk := (hok.dir _ (asc_some ha)).1
        have hk : 0 ≤ k := hk
        rw [if_pos (show (some k).isSome = true from rfl), h.find_some ha, if_pos hk]; exact ⟨rfl, h⟩
      | none =>
        rw [if_neg (show ¬ (none : Option Int).isSome = true by decide), h.find_none ha, if_neg (show ¬ (0 : Int) ≤ -1 by decide)]
        split
        · exact ⟨rfl, h⟩
        · suffices h0 : Tie ({ s with fs := s.fs ++ [([], [])] } : DS) ({ t with fs := t.fs ++ [([], [], [])] } : RS) by
            refine ⟨rfl, ?_⟩
            rw [h.len]
            exact (h0.note hok.nd _).did
          refine ⟨h.rm, h.has, h.left, h.chs, by simp [h.len], fun k f g h1 h2 => ?_, h.dir, h.fx, fun p hp => by have := h.out p hp; simp; omega⟩
          have h1' : (s.fs ++ [([], [])])[k]? = some f := h1
          have h2' : (t.fs ++ [([], [], [])])[k]? = some g := h2
          by_cases hk : k < s.fs.length
          · rw [List.getElem?_append_left hk] at h1'
            rw [List.getElem?_append_left (by rw [h.len]; exact hk)] at h2'
            exact h.fs k f g h1' h2'
          · have hl := (List.getElem?_eq_some_iff.1 h1').1
            rw [List.length_append, List.length_singleton] at hl
            have hk2 : k = s.fs.length := by omega
            subst hk2
            rw [List.getElem?_append_right (Nat.le_refl _), Nat.sub_self] at h1'
            rw [List.getElem?_append_right (by rw [h.len]; exact Nat.le_refl _), h.len, Nat.sub_self] at h2'
            cases h1'; cases h2'
            refine ⟨rfl, rfl, List.Pairwise.nil, fun i => ?_, fun i hi => by cases hi⟩
            have : asc ((s.fs.length : Int), i) s.ls = none := asc_none.2 fun p hp e => by have := h.out p hp; rw [e] at this; simp at this
            show i ∈ [] ↔ (asc ((s.fs.length : Int), i) s.ls).getD false = true
            rw [this]; simp
end
section
variable {s : DS} {t : RS}
theorem Tie.size (h : Tie s t) (hok : s.Ok) (nm : ByteArray) : t.sizeOf nm = s.sizeOf nm := by
  rw [DS.sizeOf, RS.sizeOf]
  cases ha : asc nm s.dir with
  | none => rw [h.find_none ha, if_pos (by decide)]
  | some k =>
    have hk : 0 ≤ k := (hok.dir _ (asc_some ha)).1
    rw [h.find_some ha, if_neg Zz, (h.flen k).1]; rfl
theorem Tie.read (h : Tie s t) (hok : s.Ok) (nm : ByteArray) (a n : Int) : t.read nm a n = s.read nm a n := by
  rw [DS.read, RS.read]
  cases ha : asc nm s.dir with
  | none => rw [h.find_none ha, if_pos (by decide)]
  | some k =>
    have hk : 0 ≤ k := (hok.dir _ (asc_some ha)).1
    rw [h.find_some ha, if_neg Zz, (h.flen k).1]
theorem Tie.set (h : Tie s t) {k : Int} (hk : 0 ≤ k ∧ k < s.fs.length) {f : FILE} {g : RF} {ls : LS} (h1 : g.1 = f.1 ∧ g.2.1 = f.2 ∧ Lo g.2.2 k ls f.1.length) (h2 : ∀ (j : Nat) l n, (j : Int) ≠ k → Lo l (j : Int) s.ls n → Lo l (j : Int) ls n) (h3 : ∀ p, p ∈ ls → p.1.1 < (s.fs.length : Int)) : Tie ({ s with fs := s.fs.set k.toNat f, ls := ls } : DS) ({ t with fs := t.fs.set k.toNat g } : RS) := by
  refine ⟨h.rm, h.has, h.left, h.chs, by simp [h.len], fun j f' g' a1 a2 => ?_, h.dir, h.fx, fun p hp => by have := h3 p hp; simpa using this⟩
  have a1' : (s.fs.set k.toNat f)[j]? = some f' := a1
  have a2' : (t.fs.set k.toNat g)[j]? = some g' := a2
  by_cases hj : j = k.toNat
  · subst hj
    rw [List.getElem?_set_self Zz] at a1'
    rw [List.getElem?_set_self (by rw [h.len]; omega)] at a2'
    cases a1'; cases a2'
    rw [show ((k.toNat : Nat) : Int) = k by omega]; exact h1
  · rw [List.getElem?_set_ne (fun e => hj e.symm)] at a1' a2'
    obtain ⟨b1, b2, b3⟩ := h.fs j f' g' a1' a2'
    exact ⟨b1, b2, h2 j _ _ Zz b3⟩
theorem Tie.sync (h : Tie s t) (hok : s.Ok) (nm : ByteArray) : Both (s.sync nm) (t.sync nm) := by
  rw [DS.sync, RS.sync, h.down hok]
  split
  · exact ⟨rfl, h⟩
  · cases ha : asc nm s.dir with
    | none => rw [h.find_none ha, if_pos (by decide)]; exact ⟨rfl, h⟩
    | some k =>
      obtain ⟨hk, hk2, _⟩ := hok.dir _ (asc_some ha)
      have hk : 0 ≤ k := hk
      have hk2 : k < s.fs.length := hk2
      rw [h.find_some ha, if_neg Zz, (h.flen k).1]
      exact ⟨rfl, Tie.did (h.set ⟨hk, hk2⟩ ⟨rfl, rfl, Lo.synced k s.ls _⟩ (fun j l n hj hl => hl.kept hj) (fun p hp => h.out p (List.mem_filter.1 hp).1))⟩
end
section
variable {s : DS} {t : RS}
theorem Tie.lo (h : Tie s t) {k : Int} (hk : 0 ≤ k ∧ k < s.fs.length) : Lo (rfat t k).2.2 k s.ls (Go.Proofs.YtbljooblpfdbiaaGreatDoor.fat s.fs k).1.length := by
  obtain ⟨f, hf⟩ : ∃ f, s.fs[k.toNat]? = some f := ⟨s.fs[k.toNat]'Zz, List.getElem?_eq_getElem _⟩
  obtain ⟨g, hg⟩ : ∃ g, t.fs[k.toNat]? = some g := ⟨t.fs[k.toNat]'(by rw [h.len]; omega), List.getElem?_eq_getElem _⟩
  obtain ⟨_, _, h3⟩ := h.fs _ f g hf hg
  rw [rfat_at hg, Go.Proofs.YtbljooblpfdbiaaGreatDoor.fat, List.getD_eq_getElem?_getD, hf]
  rw [show ((k.toNat : Nat) : Int) = k by omega] at h3
  exact h3
theorem markL_in {k n : Int} (hk : k < n) : ∀ (c q : Nat) (ls : LS), (∀ p, p ∈ ls → p.1.1 < n) → ∀ p, p ∈ markL k q c ls → p.1.1 < n
  | 0, _, _, h => h
  | c + 1, q, ls, h => markL_in hk c (q + 1) _ (fun p hp => by
      rcases put_mem hp with h1 | h1
      · rw [h1]; exact hk
      · exact h p h1)
theorem Tie.write (h : Tie s t) (hok : s.Ok) (nm : ByteArray) (a : Int) (y : List UInt8) : Both (s.write nm a y) (t.write nm a y) := by
  rw [DS.write, RS.write, h.down hok, h.rm, h.used hok]
  split
  · exact ⟨rfl, h⟩
  · cases ha : asc nm s.dir with
    | none => rw [h.find_none ha, if_pos (by decide)]; exact ⟨rfl, h⟩
    | some k =>
      obtain ⟨hk, hk2, _⟩ := hok.dir _ (asc_some ha)
      have hk : 0 ≤ k := hk
      have hk2 : k < s.fs.length := hk2
      have hlo := h.lo ⟨hk, hk2⟩
      rw [h.find_some ha, if_neg Zz, (h.flen k).1, (h.flen k).2]
      simp only
      split
      · exact ⟨rfl, h⟩
      · rename_i hr
        split
        · exact ⟨rfl, h⟩
        · have hadd : (s.used : Int) - (rsec (Go.Proofs.YtbljooblpfdbiaaGreatDoor.fat s.fs k).1.length : Int) + (rsec (max (Go.Proofs.YtbljooblpfdbiaaGreatDoor.fat s.fs k).1.length (a.toNat + y.length)) : Int) = (s.used : Int) + (secs (max (Go.Proofs.YtbljooblpfdbiaaGreatDoor.fat s.fs k).1.length (a.toNat + y.length)) : Int) - (secs (Go.Proofs.YtbljooblpfdbiaaGreatDoor.fat s.fs k).1.length : Int) := by
            simp only [rsec, secs]; omega
          rw [hadd]
          split
          · exact ⟨rfl, h⟩
          · have hwl := wrt_len (Go.Proofs.YtbljooblpfdbiaaGreatDoor.fat s.fs k).1 a.toNat y Zz
            have hL : Lo (rmark (a.toNat / 64) (rtouch a.toNat y.length) (rfat t k).2.2) k (markL k (a.toNat / 64) (touched a.toNat y.length) s.ls) (wrt (Go.Proofs.YtbljooblpfdbiaaGreatDoor.fat s.fs k).1 a.toNat y).length := by
              refine Lo.mark _ _ (hlo.more (by simp only [hwl]; omega)) ?_
              simp only [hwl, rtouch, rsec]
              split <;> omega
            have hs := h.set (f := (wrt (Go.Proofs.YtbljooblpfdbiaaGreatDoor.fat s.fs k).1 a.toNat y, (Go.Proofs.YtbljooblpfdbiaaGreatDoor.fat s.fs k).2)) (g := (rwrt (Go.Proofs.YtbljooblpfdbiaaGreatDoor.fat s.fs k).1 a.toNat y, (Go.Proofs.YtbljooblpfdbiaaGreatDoor.fat s.fs k).2, rmark (a.toNat / 64) (rtouch a.toNat y.length) (rfat t k).2.2)) (ls := markL k (a.toNat / 64) (touched a.toNat y.length) s.ls) ⟨hk, hk2⟩ ⟨rfl, rfl, hL⟩ (fun j l n hj hl => hl.other hj _ _) (markL_in hk2 _ _ _ h.out)
            rw [h.rm] at hs
            exact ⟨rfl, hs.did⟩
theorem looseL_tie (h : Tie s t) : ∀ l : List Int, (∀ k, k ∈ l → 0 ≤ k ∧ k < s.fs.length) → looseL s l = (rls t l, rcn t l)
  | [], _ => rfl
  | k :: l, hl => by
    have hk := hl k List.mem_cons_self
    have hsp := (h.lo hk).spots
    have e : s.spots k = (rfat t k).2.2 := hsp.symm
    rw [looseL, looseL_tie h l (fun x hx => hl x (List.mem_cons_of_mem _ hx)), e, ← (h.flen k).1, ← (h.flen k).2]
    rfl
theorem Tie.loose (h : Tie s t) (hok : s.Ok) (htk : t.Ok) : t.loose = s.loose := by
  have hn := near_tie h.fx hok.ndx h.chs
  rw [RS.loose, DS.loose, h.chs, ← hn, looseL_tie h t.near (fun k hk => by have := rnear_ok htk hk; rw [h.len] at this; exact this)]
end
theorem rinc_len : ∀ {l : List Int} {a : Int} {n : Nat}, Inc l → (∀ x, x ∈ l → a ≤ x ∧ x < a + n) → l.length ≤ n
  | [], _, _, _, _ => Nat.zero_le _
  | x :: l, a, n, h, hr => by
    obtain ⟨h1, h2⟩ := List.pairwise_cons.1 h
    have h3 := hr x List.mem_cons_self
    have := rinc_len (a := a + 1) (n := n - 1) h2 (fun y hy => by have h4 := h1 y hy; have h5 := hr y (List.mem_cons_of_mem _ hy); omega)
    rw [List.length_cons]; omega
theorem DirT.in_ {d e : DIR} (h : DirT d e) {p : ByteArray × Int} (hp : p ∈ e) : p ∈ d := by
  have := asc_mem h.2.nd (x := p.1) (u := p.2) hp
  rw [h.1] at this
  exact asc_some this
theorem Tie.ok {s : DS} {t : RS} (h : Tie s t) (hok : s.Ok) (hs : s.size ≤ 50000) : t.Ok := by
  have hsz : s.fs.length + s.chs.length ≤ 50000 := hs
  refine ⟨by rw [h.rm]; exact hok.rm, fun p hp => ?_, fun p hp => ?_, fun c hc he => ?_, fun g hg => ?_, by rw [h.dlen hok]; exact hok.few, ?_, ⟨by rw [h.len]; omega, by rw [h.chs]; omega⟩, by rw [h.left]; exact hok.lf⟩
  · have := hok.dir p (h.dir.in_ hp); rw [h.len]; exact ⟨this.1, this.2.1⟩
  · have := hok.fx p (h.fx.in_ hp); rw [h.len]; exact ⟨this.1, this.2.1⟩
  · rw [h.chs] at hc; rw [h.len]; exact hok.chs c hc he
  · obtain ⟨k, hk⟩ := List.getElem?_of_mem hg
    have hkl := (List.getElem?_eq_some_iff.1 hk).1
    obtain ⟨f, hf⟩ : ∃ f, s.fs[k]? = some f := ⟨s.fs[k]'(by rw [← h.len]; exact hkl), List.getElem?_eq_getElem _⟩
    obtain ⟨h1, h2, h3⟩ := h.fs k f g hf hk
    have hff := hok.fs f (List.mem_of_getElem? hf)
    have hr : ∀ i, i ∈ g.2.2 → 0 ≤ i ∧ i < 16384 := fun i hi => by have := h3.rng i hi; rw [rsec] at this; omega
    refine ⟨by rw [h1]; exact hff.1, by rw [h2]; exact hff.2, rinc_len (a := 0) (n := 16384) h3.inc (fun x hx => by have := hr x hx; omega), hr⟩
  · have := (keys_perm h.fx hok.ndx).length_eq
    rw [List.length_map, List.length_map] at this
    rw [this]; exact hok.fewx
theorem sortB_sorted {l : DIR} (h : Srtd l) : sortB (l.map (·.1)) = l.map (·.1) := by
  rw [sortB, List.mergeSort_of_pairwise, List.map_map]
  · exact (List.map_congr_left (fun x _ => by cases x; simp)).trans (List.map_id _)
  · rw [List.pairwise_map, List.pairwise_map]
    exact h.imp fun {p q} hpq => by
      rw [sless_lt] at hpq
      exact decide_eq_true (List.le_of_lt (of_decide_eq_true hpq))
theorem Tie.names {s : DS} {t : RS} (h : Tie s t) (hok : s.Ok) : sortB (s.dir.map (·.1)) = t.dir.map (·.1) := by
  rw [← sortB_perm (keys_perm h.dir hok.nd), sortB_sorted h.dir.2]
structure Tw (g : Nat) (ca cb : Nat → Nat) (w : World) (b x m : Nat) (r : Int) (s : DS) (t : RS) : Prop where
  D : DkR ca w b s
  X : RkR cb w x t
  ap : ∀ q, ca q ≠ 0 → cb q = 0
  inv : s.Inv
  fit : s.Fits r
  tie : Tie s t
  sz : s.size ≤ m
  lo : ∀ q, q < g → ca q = 0 ∧ cb q = 0
  gw : g ≤ w.heap.size
structure Md (g : Nat) (ca ca' cb : Nat → Nat) (w w1 : World) (b x m : Nat) (r : Int) (s s1 : DS) (t : RS) : Prop where
  T : Tw g ca cb w b x m r s t
  D : DkR ca' w1 b s1
  st : Stp ca w ca' w1
section
variable {g b x m m' : Nat} {ca cb ca' cb' : Nat → Nat} {w w1 w2 : World} {r : Int} {s s1 : DS} {t t1 : RS}
theorem Tw.ok (h : Tw g ca cb w b x m r s t) (hm : m ≤ 40000) : t.Ok := h.tie.ok h.inv.ok (by have := h.sz; omega)
theorem Tw.ext (h : Tw g ca cb w b x m r s t) {T : Nat → Prop} (y : Ext T w w1) (hT : ∀ q, ca q ≠ 0 ∨ cb q ≠ 0 → ¬ T q) : Tw g ca cb w1 b x m r s t :=
  ⟨h.D.ext y fun q hq => hT q (.inl hq), h.X.ext y fun q hq => hT q (.inr hq), h.ap, h.inv, h.fit, h.tie, h.sz, h.lo, Nat.le_trans h.gw y.size⟩
theorem Tw.keep (h : Tw g ca cb w b x m r s t) (y : Keep w w1) : Tw g ca cb w1 b x m r s t := h.ext y fun _ _ h => h
theorem Md.X (h : Md g ca ca' cb w w1 b x m r s s1 t) : RkR cb w1 x t := h.T.X.ext h.st.ext fun q hq e => hq (h.T.ap q e)
theorem Md.next (h : Md g ca ca' cb w w1 b x m r s s1 t) (h2 : RkR cb' w2 x t1) (s2 : Stp cb w1 cb' w2) (hi : s1.Inv) (hf : s1.Fits r) (ht : Tie s1 t1) (hz : s1.size ≤ m') : Tw g ca' cb' w2 b x m' r s1 t1 := by
  have hap : ∀ q, ca' q ≠ 0 → cb q = 0 := fun q hq => by
    rcases Nat.lt_or_ge q w.heap.size with hl | hl
    · exact h.T.ap q (by rw [← h.st.1 q hl]; exact hq)
    · exact Classical.byContradiction fun e => by have := h.T.X.lt q e; omega
  refine ⟨h.D.ext s2.2 fun q hq e => e (hap q hq), h2, fun q hq => (s2.1 q (h.D.lt q hq)).trans (hap q hq), hi, hf, ht, hz, fun q hq => ?_, ?_⟩
  · have hg := h.T.gw
    have h1 := h.st.2.size
    exact ⟨(h.st.1 q Zz).trans (h.T.lo q hq).1, (s2.1 q Zz).trans (h.T.lo q hq).2⟩
  · exact Nat.le_trans h.T.gw (Nat.le_trans h.st.2.size s2.2.size)
end
def LfS (lo hi : Nat) (w : World) (A : Option Addr) (n : Nat) (l : List LEAF) : Prop := ∃ L, Sl KLf lo hi w A n L ∧ NdLf.All (fun k => lo ≤ k ∧ k < hi) w L l
abbrev rnL (b : Nat) (nm : ByteArray) (A : Option Addr) (n c : Nat) (k : Nat) : List Value := [ptrV b, .string nm, .slice A n c, .int .i64 (k : Int)]
def RunO (lo hi : Nat) (w : World) (r b : Nat) (nm : ByteArray) (l : List LEAF) (k : Nat) : Prop := ∃ A c, Blk w r (rnL b nm A l.length c k) 56 ∧ l.length ≤ c ∧ LfS lo hi w A l.length l
section
variable {lo hi r b k : Nat} {w w' : World} {nm : ByteArray} {l : List LEAF} {A : Option Addr} {n : Nat}
theorem LfS.ext (h : LfS lo hi w A n l) {T : Nat → Prop} (x : Ext T w w') (hT : ∀ q, lo ≤ q → q < hi → ¬ T q) : LfS lo hi w' A n l := let ⟨L, h1, h2⟩ := h; ⟨L, h1.ext x hT, Nd.All.ext h2 x fun q hq => hT q hq.1 hq.2⟩
theorem LfS.keep (h : LfS lo hi w A n l) (x : Keep w w') : LfS lo hi w' A n l := h.ext x fun _ _ _ h => h
theorem RunO.ext (h : RunO lo hi w r b nm l k) {T : Nat → Prop} (x : Ext T w w') (hr : ¬ T r) (hT : ∀ q, lo ≤ q → q < hi → ¬ T q) : RunO lo hi w' r b nm l k := let ⟨A, c, h1, h2, h3⟩ := h; ⟨A, c, h1.ext x hr, h2, h3.ext x hT⟩
theorem RunO.keep (h : RunO lo hi w r b nm l k) (x : Keep w w') : RunO lo hi w' r b nm l k := h.ext x id fun _ _ _ h => h
theorem nrow_lf {tb base m : Nat} {S G : Nat → Prop} {v : Value} {L : List LH} (h : NRow NdLf tb base m S G w v L l) : ∃ A c, v = .slice A l.length c ∧ l.length ≤ c ∧ LfS base w.heap.size w A l.length l := by
  obtain ⟨A, c, e, hc, hs⟩ := h.rd
  exact ⟨A, c, e, hc, L, hs.wide (Nat.le_refl _) h.l1, Nd.All.mono h.d h.g⟩
theorem LfS.get (h : LfS lo hi w A n l) {i : Nat} {q : LEAF} (hq : l[i]? = some q) : ∃ L x, Sl KLf lo hi w A n L ∧ L[i]? = some x ∧ x.1 = q.1 ∧ x.2.1 = q.2.1 ∧ x.2.2.2.1 ≤ x.2.2.2.2 ∧ Sl KV lo hi w x.2.2.1 x.2.2.2.1 q.2.2 := by
  obtain ⟨L, h1, h2⟩ := h
  obtain ⟨x, hx⟩ : ∃ x, L[i]? = some x := ⟨_, List.getElem?_eq_getElem (by rw [h2.1]; exact (List.getElem?_eq_some_iff.1 hq).1)⟩
  obtain ⟨q', g1, g2, g3, g4, lo', hi', g5, g6⟩ := h2.2 i x hx
  rw [hq] at g1; cases g1
  exact ⟨L, x, h1, hx, g2, g3, g4, kv_tight g6 fun k a b => g5 k a b⟩
end
theorem made_c {lo hi r b k : Nat} {nm : ByteArray} {l : List LEAF} (w : World) (h : RunO lo hi w r b nm l k) : Ret Tryz.prog 44 #[ptrV r] w fun v w' => v = .bool true ∧ Keep w w' := by
 obtain ⟨A, c, hB, hlc, hL⟩ := h
 refine X.enter Tryz.func44 rfl Tryz.ntmps44 rfl<|Zs<|Zr<|Zoa rfl rfl<|Ze<|Zs<|Zr<|Zom rfl rfl<|Zo (X.nePtrN (A := some _) Zu31 rfl rfl) rfl<|Zomt rfl rfl<|Zg (X.move rfl) rfl rfl rfl rfl<|Zg (X.nilCk rfl) rfl rfl rfl rfl<|Zg (X.fldB (j := 0) Zu56 rfl rfl Tryz.sizeOf26 rfl) rfl rfl rfl rfl<|Zg (X.load1B Tryz.isAgg26 hB rfl rfl) rfl rfl rfl rfl<|Zg (X.nePtrN (A := some _) Zu26 rfl rfl) rfl rfl rfl rfl<|Zo (ZdTt rfl rfl) rfl<|Zoat rfl rfl<|Ze<|X.ret1 (v := (.bool _)) Tryz.func44 Tryz.results44 rfl ?_
 exact ⟨rfl, (Keep.refl _)⟩
def NobR (w : World) (p : Option Addr) : Prop := p = none ∨ ∃ r, p = some ⟨r, 0, none⟩ ∧ Blk w r [.pointer none, .string ⟨#[]⟩, .slice none 0 0, .int .i64 0] 56
theorem NobR.keep {w w' : World} {p : Option Addr} (h : NobR w p) (x : Keep w w') : NobR w' p := h.imp id fun ⟨r, e, h⟩ => ⟨r, e, h.keep x⟩
theorem Len_c {lo hi r b k : Nat} {nm : ByteArray} {l : List LEAF} (w : World) (h : RunO lo hi w r b nm l k) : Ret Tryz.prog 25 #[ptrV r] w fun v w' => v = .tuple #[.int .i64 (l.length : Int), .int .i64 (k : Int)] ∧ Keep w w' := by
 obtain ⟨A, c, hB, hlc, hL⟩ := id h
 have hrl := hB.lt
 obtain ⟨Lr, hsr, hLr⟩ := id hL
 have hsl := hsr.len
 have hsb := hsr.bound
 refine X.enter Tryz.func25 rfl Tryz.ntmps25 rfl<|Zs<|Zr<|Zoa rfl rfl<|Zoa rfl rfl<|Ze<|Zs<|Zs<|Zr<|Zom rfl rfl<|Zc (X.callE (made_c _ (h.keep (Keep.refl _))) Zc44 rfl rfl) rfl ?_
 rintro _ w1 ⟨rfl, hk1⟩
 have hk1' := hk1.size
 refine Zo (X.not_ rfl) rfl<|Ze<|Zf rfl<|Zk<|Zs<|X.regionD (fun _ => False) 10 Zl Zl (fun w2 hk2 hz2 => ?_)
 refine ZDc 0 rfl Zl (X.move rfl)<|ZDc 1 rfl Zl (X.nilCk rfl)<|ZDc 2 rfl Zl (X.fldB (j := 2) Zu56 rfl rfl Zs54 rfl)<|ZD 3 rfl Zl (fun w' hk' => X.load1B Zi54 (hB.keep ((hk1.trans hk2).trans hk')) rfl rfl)<|ZDc 4 rfl Zl (X.lenSl Zu54 rfl)<|ZDc 5 rfl Zl (X.move rfl)<|ZDc 6 rfl Zl (X.nilCk rfl)<|ZDc 7 rfl Zl (X.fldB (j := 3) Zu56 rfl rfl Zs3 rfl)<|ZD 8 rfl Zl (fun w' hk' => X.load1B Zi3 (hB.keep ((hk1.trans hk2).trans hk')) rfl rfl)<|ZDc 9 rfl Zl (Zdai rfl)<|X.dStep (i := 10) Zl rfl (X.dwN rfl) (X.assign (v := .int .i64 _) rfl) (fun h => absurd h (by decide))<|Zdend Zl<|X.ret2 (v1 := (.int .i64 _)) (v2 := (.int .i64 _)) Tryz.func25 Tryz.results25 rfl rfl ?_
 exact ⟨rfl, (hk1.trans hk2)⟩
theorem at_ok {lo hi r b k : Nat} {nm : ByteArray} {l : List LEAF} (w : World) (h : RunO lo hi w r b nm l k) (i : Nat) {q : LEAF} (hq : l[i]? = some q) : Ret Tryz.prog 42 #[ptrV r, .int .i64 (i : Int)] w fun v w' => (∃ A' n' c', v = .tuple #[.agg #[.int .i64 (q.1 : Int), .int .i64 (q.2.1 : Int), .slice A' n' c'], .int .i64 0] ∧ n' ≤ c' ∧ Sl KV lo hi w A' n' q.2.2) ∧ Keep w w' := by
 obtain ⟨A, c, hB, hlc, hL⟩ := id h
 have hrl := hB.lt
 obtain ⟨Lr, hsr, hLr⟩ := id hL
 have hsl := hsr.len
 have hsb := hsr.bound
 have hil := (List.getElem?_eq_some_iff.1 hq).1
 obtain ⟨L2, x, hsL2, hx, x1, x2, x3, hxs⟩ := hL.get hq
 refine X.enter Tryz.func42 rfl Tryz.ntmps42 rfl<|Zs<|Zr<|Zc (X.allocE Zv106 rfl) rfl ?_
 rintro _ w1 ⟨rfl, hB1, hk1, hz1⟩
 refine Zoa rfl rfl<|Ze<|Zs<|Zb<|Zs<|Zr<|Zom rfl rfl<|Zc (X.callE (made_c _ (h.keep hk1)) Zc44 rfl rfl) rfl ?_
 rintro _ w2 ⟨rfl, hk2⟩
 have hk2' := hk2.size
 refine Zo (X.not_ rfl) rfl<|Zoaf rfl rfl<|Ze<|Zf rfl<|Zs<|Zr<|Zomi rfl rfl<|X.opP X.wN rfl rfl (X.lss rfl rfl) (fun h13 => ?_) (fun h13 => ?_)
 ·omega
 ·refine Zomf rfl rfl<|Zg (Zdmi rfl) rfl rfl rfl rfl<|Zg (X.move rfl) rfl rfl rfl rfl<|Zg (X.nilCk rfl) rfl rfl rfl rfl<|Zg (X.fldB (j := 2) Zu56 rfl rfl Zs54 rfl) rfl rfl rfl rfl<|Zg (X.load1B Zi54 (hB.keep (hk1.trans hk2)) rfl rfl) rfl rfl rfl rfl<|Zg (X.lenSl Zu54 rfl) rfl rfl rfl rfl<|X.opP (X.wG rfl rfl rfl) rfl rfl (X.geq rfl rfl) (fun h21 => ?_) (fun h21 => ?_)
  ·omega
  ·refine Zo (ZdFf rfl rfl) rfl<|Zoaf rfl rfl<|Ze<|Zf rfl<|Zk<|Zi<|Zs<|Zr<|Zom rfl rfl<|Zo (X.nilCk rfl) rfl<|Zo (X.fldB (j := 2) Zu56 rfl rfl Zs54 rfl) rfl<|Zo (X.load1B Zi54 (hB.keep (hk1.trans hk2)) rfl rfl) rfl<|Zomi rfl rfl<|Zo (X.idxS (hsL2.keep (hk1.trans hk2)) Zu54 Zs106 rfl rfl ⟨by omega, by omega⟩) rfl<|Zo (X.loadSN Zi106 Zs106 (hsL2.keep (hk1.trans hk2)) hx rfl (fun _ h => h.1) rfl) rfl<|Zc (X.storeNE Zs106 (hB1.keep hk2) rfl rfl rfl rfl (fun u hu => by simp at hu; rcases hu with rfl | rfl | rfl <;> rfl)) rfl ?_
   rintro _ w3 ⟨hB3, hx3, hz3⟩
   refine Zoa rfl rfl<|Ze ?_
   refine X.ret_unw (X.unwR2 Tryz.func42 Tryz.results42 (X.ResOk.cell rfl (X.lvN Zi106 Zs106 hB3 rfl)) (show X.ResOk _ _ _ (.tmp 5) (.int .i64 _) from rfl) ?_)
   exact ⟨⟨x.2.2.1, x.2.2.2.1, x.2.2.2.2, by rw [← x1, ← x2], x3, hxs⟩, ((hk1.trans hk2).step hx3 zq29)⟩
theorem half (a b : Nat) : ((a + b : Nat) : Int).fdiv (2 ^ (min ((1 : Int)).toNat IntKind.u64.bits)) = (((a + b) / 2 : Nat) : Int) := by
  have h : min ((1 : Int)).toNat IntKind.u64.bits = 1 := by show min ((1 : Int)).toNat 64 = 1; decide
  rw [h, show (2 : Int) ^ 1 = ((2 : Nat) : Int) from rfl, Int.fdiv_eq_ediv_of_nonneg _ (Int.natCast_nonneg _)]; rfl
theorem search_c (p : Nat → Bool) (fv : Value) (n : Nat) (hn : n ≤ 1000000) (w : World) (hf : ∀ i w', Keep w w' → i < n → YC Tryz.prog fv [.int .i64 (i : Int)] w' fun v w2 => v = .bool (p i) ∧ Keep w' w2) : Ret Tryz.prog 45 #[.int .i64 (n : Int), fv] w fun v w' => (∃ i : Nat, v = .int .i64 (i : Int) ∧ i ≤ n ∧ (∀ j, j + 1 = i → p j = false) ∧ (i < n → p i = true)) ∧ Keep w w' := by
 refine X.enter Tryz.func45 rfl Tryz.ntmps45 rfl<|Zs<|Zr<|Zoa rfl rfl<|Ze<|Zs<|Zr<|Zomi rfl rfl<|Zoa rfl rfl<|Zoai rfl rfl<|Ze<|Zs<|Zb<|X.loopL (σ := Nat × Nat) (fun s => [(1, fv), (5, .int .i64 (s.1 : Int)), (6, .int .i64 (s.2 : Int))]) (fun s w' => s.1 ≤ s.2 ∧ s.2 ≤ n ∧ (∀ q, q + 1 = s.1 → p q = false) ∧ (s.2 < n → p s.2 = true) ∧ Keep w w') (fun s => s.2 - s.1) (0, n) ⟨rfl, rfl, rfl, trivial⟩ ⟨Nat.zero_le _, Nat.le_refl _, fun q h => by (try dsimp only at h); omega, fun h => by (try dsimp only at h); omega, (Keep.refl _)⟩ ?_
 rintro ⟨i, j⟩ b w1 ⟨hij, hjn, hp1, hp2, hk⟩ hback
 dsimp only
 dsimp only at hij hjn hp1 hp2
 have hk0 := hk.size
 refine Zs<|Zs<|Zr<|Zomi rfl rfl<|Zomi rfl rfl<|X.opP X.wN rfl rfl (X.lss rfl rfl) (fun h11 => ?_) (fun h11 => ?_)
 ·refine Ze<|Zt rfl<|Zk<|Zb<|Zs<|Zr<|Zomi rfl rfl<|Zomi rfl rfl<|Zo (X.add (c := ((i + j : Nat) : Int)) rfl rfl (by rw [X.w_i64 Zz]; omega)) rfl ?_
  refine Zo (X.cvI Zu3 Zu77 rfl (X.w_u64 Zz)) rfl<|Zo (X.shr (c := (((i + j) / 2 : Nat) : Int)) rfl rfl (by decide) (half i j)) rfl<|Zo (X.cvI Zu77 Zu3 rfl (X.w_i64 Zz)) rfl<|Zoai rfl rfl<|Ze<|Zs<|Zr<|Zom rfl rfl<|Zomi rfl rfl<|Zc ((hf ((i + j) / 2) _ hk Zz) _ _ _ _ _ _ _ _ _ rfl rfl) rfl ?_
  rintro _ w1 ⟨rfl, hk1⟩
  have hk1' := hk1.size
  refine Zo (X.not_ rfl) rfl<|Ze<|X.condB rfl (fun hc21 => ?_) (fun hc21 => ?_)
  ·refine Zr<|Zomi rfl rfl<|Zo (X.add (c := (((i + j) / 2 + 1 : Nat) : Int)) rfl rfl (by rw [X.w_i64 Zz]; omega)) rfl ?_
   refine Zoai rfl rfl<|Ze<|Zi ?_
   refine hback ((i + j) / 2 + 1, j) _ _ ⟨rfl, rfl, rfl, trivial⟩ ⟨by (try dsimp only); omega, hjn, fun q hq => by (try dsimp only at hq); rw [show q = (i + j) / 2 by omega]; simpa using hc21, hp2, (hk.trans hk1)⟩ (by (try dsimp only); omega)
  ·refine Zr<|Zomi rfl rfl<|Zoai rfl rfl<|Ze<|Zi ?_
   refine hback (i, (i + j) / 2) _ _ ⟨rfl, rfl, rfl, trivial⟩ ⟨by (try dsimp only); omega, by (try dsimp only); omega, hp1, fun _ => by simpa using hc21, (hk.trans hk1)⟩ (by (try dsimp only); omega)
 ·refine Ze<|Zf rfl<|Zx rfl<|Zs<|Zr<|Zomi rfl rfl<|Zoai rfl rfl<|Ze<|X.ret1 (v := (.int .i64 _)) Tryz.func45 Tryz.results45 rfl ?_
  have hij' : i = j := by omega
  subst hij'
  exact ⟨⟨i, rfl, hjn, hp1, hp2⟩, hk⟩
theorem find1_c {lo hi r b k lo2 hi2 b1 b2 : Nat} {nm : ByteArray} {l : List LEAF} {A2 : Option Addr} {n2 c2 : Nat} {t : List VAL} (w : World) (h : RunO lo hi w r b nm l k) (h1 : Blk w b1 [ptrV r] 31) (h2 : Blk w b2 [.slice A2 n2 c2] 38) (ht : Sl KV lo2 hi2 w A2 n2 t) (i : Nat) {q : LEAF} (hq : l[i]? = some q) : Ret Tryz.prog 46 #[.int .i64 (i : Int), .pointer (some ⟨b1, 0, none⟩), .pointer (some ⟨b2, 0, none⟩)] w fun v w' => v = .bool (decide (cmpT q.2.2 t > 0)) ∧ Keep w w' := by
 obtain ⟨A, c, hB, hlc, hL⟩ := id h
 have hrl := hB.lt
 obtain ⟨Lr, hsr, hLr⟩ := id hL
 have hsl := hsr.len
 have hsb := hsr.bound
 have hil := (List.getElem?_eq_some_iff.1 hq).1
 obtain ⟨L2, x, hsL2, hx, x1, x2, x3, hxs⟩ := hL.get hq
 refine X.enter Tryz.func46 rfl Tryz.ntmps46 rfl<|Zs<|Zr<|Zoa rfl rfl<|Ze<|Zs<|X.regionD (fun _ => False) 11 Zl Zl (fun w1 hk1 hz1 => ?_)
 refine ZD 0 rfl Zl (fun w' hk' => X.load1B Zi31 (h1.keep (hk1.trans hk')) rfl rfl)<|ZDc 1 rfl Zl (X.nilCk rfl)<|ZDc 2 rfl Zl (X.fldB (j := 2) Zu56 rfl rfl Zs54 rfl)<|ZD 3 rfl Zl (fun w' hk' => X.load1B Zi54 (hB.keep (hk1.trans hk')) rfl rfl)<|ZDc 4 rfl Zl (Zdmi rfl)<|ZD 5 rfl Zl (fun w' hk' => X.idxS (hsL2.keep (hk1.trans hk')) Zu54 Zs106 rfl rfl ⟨by omega, by omega⟩)<|ZDc 6 rfl Zl (X.fldA Zu106 rfl rfl Zs38)<|ZD 7 rfl Zl (fun w' hk' => X.loadSf (o := 2) Zi38 (hsL2.keep (hk1.trans hk')) hx rfl (fun _ h => by rw [h.1]; rfl)) ?_
 refine ZD 8 rfl Zl (fun w' hk' => X.load1B Zi38 (h2.keep (hk1.trans hk')) rfl rfl)<|X.dE (i := 9) Zl rfl (X.dwN rfl) (X.callE (tupleCompare_c _ (hxs.keep hk1) (ht.keep hk1)) Tryz.call47 rfl rfl) (by rintro _ w2 ⟨rfl, hk2⟩ _; exact hk2.mono (fun _ _ h => h.elim)) ?_
 rintro _ w2 ⟨rfl, hk2⟩
 have hk2' := hk2.size
 refine ZDc 10 rfl Zl (X.gtr rfl rfl)<|X.dStep (i := 11) Zl rfl (X.dwN rfl) (X.assign (v := .bool _) rfl) (fun h => absurd h (by decide))<|Zdend Zl<|X.ret1 (v := (.bool _)) Tryz.func46 Tryz.results46 rfl ?_
 exact ⟨rfl, (hk1.trans hk2)⟩
def fndN (l : List LEAF) (t : List VAL) : Nat := (l.takeWhile fun q => decide (cmpT q.2.2 t ≤ 0)).length
def Asc (l : List LEAF) : Prop := l.Pairwise fun p q => cmpT p.2.2 q.2.2 < 0
theorem fnd_at {l : List LEAF} {t : List VAL} (ha : Asc l) {i : Nat} (hi : i ≤ l.length) (h1 : ∀ j q, j + 1 = i → l[j]? = some q → cmpT q.2.2 t ≤ 0) (h2 : ∀ q, l[i]? = some q → 0 < cmpT q.2.2 t) : fndN l t = i := by
  have hall : ∀ j q, j < i → l[j]? = some q → cmpT q.2.2 t ≤ 0 := fun j q hj hq => by
    obtain ⟨p, hp⟩ : ∃ p, l[i - 1]? = some p := ⟨_, List.getElem?_eq_getElem Zz⟩
    have hb := h1 (i - 1) p Zz hp
    rcases Nat.lt_or_ge j (i - 1) with hlt | hge
    · obtain ⟨g1, e1⟩ := List.getElem?_eq_some_iff.1 hq
      obtain ⟨g2, e2⟩ := List.getElem?_eq_some_iff.1 hp
      have := List.pairwise_iff_getElem.1 ha j (i - 1) g1 g2 hlt
      rw [e1, e2] at this
      exact cmpT_le (Int.le_of_lt this) hb
    · rw [show j = i - 1 by omega, hp] at hq; cases hq; exact hb
  have e : l.takeWhile (fun q => decide (cmpT q.2.2 t ≤ 0)) = l.take i := by
    have hs : l = l.take i ++ l.drop i := (List.take_append_drop i l).symm
    rw [hs, List.takeWhile_append_of_pos]
    · rw [List.take_append_drop]
      cases hd : l.drop i with
      | nil => simp
      | cons q r =>
        have hq : l[i]? = some q := by
          have := congrArg (fun z => z[0]?) hd
          simpa using this
        rw [List.takeWhile_cons, if_neg (by have := h2 q hq; simp; omega), List.append_nil]
    · intro q hq
      obtain ⟨j, hj⟩ := List.getElem?_of_mem hq
      rw [List.getElem?_take] at hj
      split at hj
      · rename_i hji; exact decide_eq_true (hall j q hji hj)
      · cases hj
  rw [fndN, e, List.length_take, Nat.min_eq_left hi]
def pAt (l : List LEAF) (t : List VAL) (i : Nat) : Bool := match l[i]? with
  | some q => decide (cmpT q.2.2 t > 0)
  | none => false
theorem pAt_at {l : List LEAF} {t : List VAL} {i : Nat} {q : LEAF} (h : l[i]? = some q) : pAt l t i = decide (cmpT q.2.2 t > 0) := by rw [pAt, h]
theorem RuFind_c {lo hi r b k : Nat} {nm : ByteArray} {l : List LEAF} (w : World) (h : RunO lo hi w r b nm l k) (hl : l.length ≤ 1000000) (ha : Asc l) {lo2 hi2 : Nat} {A2 : Option Addr} {n2 c2 : Nat} {t : List VAL} (ht : Sl KV lo2 hi2 w A2 n2 t) : Ret Tryz.prog 16 #[ptrV r, .slice A2 n2 c2] w fun v w' => v = .int .i64 ((fndN l t : Int) - 1) ∧ Keep w w' := by
 obtain ⟨A, c, hB, hlc, hL⟩ := id h
 have hrl := hB.lt
 obtain ⟨Lr, hsr, hLr⟩ := id hL
 have hsl := hsr.len
 have hsb := hsr.bound
 refine X.enter Tryz.func16 rfl Tryz.ntmps16 rfl<|Zs<|Zr<|Zc (X.boxE rfl rfl) rfl ?_
 rintro _ w1 ⟨rfl, hB1, hk1, hz1⟩
 refine Zc (X.boxE rfl rfl) rfl ?_
 rintro _ w2 ⟨rfl, hB2, hk2, hz2⟩
 refine Zoa rfl rfl<|Ze<|Zs<|Zs<|Zr<|Zo (X.load1B Zi31 (hB1.keep hk2) rfl rfl) rfl<|Zc (X.callE (made_c _ (h.keep (hk1.trans hk2))) Zc44 rfl rfl) rfl ?_
 rintro _ w3 ⟨rfl, hk3⟩
 have hk3' := hk3.size
 refine Zo (X.not_ rfl) rfl<|Ze<|Zf rfl<|Zk<|Zs<|Zr<|Zo (X.load1B Zi31 (hB1.keep (hk2.trans hk3)) rfl rfl) rfl<|Zo (X.nilCk rfl) rfl<|Zo (X.fldB (j := 2) Zu56 rfl rfl Zs54 rfl) rfl<|Zo (X.load1B Zi54 (hB.keep ((hk1.trans hk2).trans hk3)) rfl rfl) rfl<|Zo (X.lenSl Zu54 rfl) rfl<|Zo (X.mkFunc rfl) rfl ?_
 refine X.opE X.wN rfl (X.callE (search_c (pAt l t) _ l.length Zz _ (fun i wi hki hi => by
   obtain ⟨q, hq⟩ : ∃ q, l[i]? = some q := ⟨_, List.getElem?_eq_getElem hi⟩
   rw [pAt_at hq]
   exact YC.of_ret (cap := [.pointer (some ⟨w.heap.size, 0, none⟩), .pointer (some ⟨w1.heap.size, 0, none⟩)]) (find1_c wi ((h.keep ((hk1.trans hk2).trans hk3)).keep hki) ((hB1.keep (hk2.trans hk3)).keep hki) ((hB2.keep hk3).keep hki) ((ht.keep ((hk1.trans hk2).trans hk3)).keep hki) i hq) Tryz.call46)) Tryz.call45 rfl rfl) ?_
 rintro _ w4 ⟨⟨i, rfl, hin, hp1, hp2⟩, hk4⟩
 have hk4' := hk4.size
 refine Zo (X.sub rfl rfl (X.w_i64 Zz)) rfl<|Zoai rfl rfl<|Ze<|X.ret1 (v := (.int .i64 _)) Tryz.func16 Tryz.results16 rfl ?_
 rw [fnd_at ha hin (fun j q hj hq => by have := hp1 j hj; rw [pAt_at hq] at this; have := of_decide_eq_false this; omega) (fun q hq => by have := hp2 (List.getElem?_eq_some_iff.1 hq).1; rw [pAt_at hq] at this; exact of_decide_eq_true this)]
 exact ⟨rfl, (((hk1.trans hk2).trans hk3).trans hk4)⟩
theorem Page_ok {col : Nat → Nat} {s : DS} {lo hi r b k : Nat} {nm : ByteArray} {l : List LEAF} (w : World) (h : RunO lo hi w r b nm l k) (hhi : hi ≤ w.heap.size) (hD : DkR col w b s) (hok : s.Ok) (hTb : TabOk w) (i : Nat) {q : LEAF} (hq : l[i]? = some q) (hq1 : q.1 ≤ 1000000 ∧ q.2.1 ≤ 1000000) (hrd : (s.read nm (q.1 : Int) (q.2.1 : Int)).2 = 0) (hrl : (s.read nm (q.1 : Int) (q.2.1 : Int)).1.length ≤ 1000000) : Ret Tryz.prog 15 #[ptrV r, .int .i64 (i : Int)] w fun rv w' => (match pgP (s.read nm (q.1 : Int) (q.2.1 : Int)).1 q.2.2 with
    | some p => ∃ v L m S G, rv = .tuple #[v, .int .i64 0] ∧ NRow NdCt 40 w.heap.size m S G w' v L p
    | none => rv = .tuple #[.slice none 0 0, .int .i64 71]) ∧ Keep w w' := by
 obtain ⟨Aq, cq, hBq, _⟩ := id h
 refine X.enter Tryz.func15 rfl Tryz.ntmps15 rfl<|Zs<|Zr<|Zoa rfl rfl<|Zoa rfl rfl<|Ze<|Zs<|Zr<|Zom rfl rfl<|Zomi rfl rfl<|Zc (X.callE (at_ok _ (h.keep (Keep.refl _)) i hq) Tryz.call42 rfl rfl) rfl ?_
 rintro _ w1 ⟨⟨At, nt, ct, rfl, hnt, hts⟩, hk1⟩
 have hk1' := hk1.size
 refine Zom rfl rfl<|Zo (X.extr rfl rfl) rfl<|Zo (X.extr rfl rfl) rfl<|Zc (X.allocE Zv106 rfl) rfl ?_
 rintro _ w2 ⟨rfl, hB2, hk2, hz2⟩
 refine Zc (X.storeNE Zs106 hB2 rfl rfl rfl rfl (fun u hu => by simp at hu; rcases hu with rfl | rfl | rfl <;> rfl)) rfl ?_
 rintro _ w3 ⟨hB3, hx3, hz3⟩
 refine Zoai rfl rfl<|Ze<|Zs<|Zs<|Zr<|Zomi rfl rfl<|X.opP X.wN rfl rfl (X.neI rfl rfl) (fun h16 => ?_) (fun h16 => ?_)
 ·exact absurd rfl h16
 ·refine Ze<|Zf rfl<|Zk<|Zs<|X.regionD (fun _ => False) 17 Zl Zl (fun w4 hk4 hz4 => ?_)
  refine ZDc 0 rfl Zl (X.move rfl)<|ZDc 1 rfl Zl (X.nilCk rfl)<|ZDc 2 rfl Zl (X.fldB (j := 0) Zu56 rfl rfl Tryz.sizeOf26 rfl)<|ZD 3 rfl Zl (fun w' hk' => X.load1B Tryz.isAgg26 (hBq.keep ((((hk1.trans hk2).step hx3 zq29).trans hk4).trans hk')) rfl rfl) ?_
  refine ZDc 4 rfl Zl (X.move rfl)<|ZDc 5 rfl Zl (X.nilCk rfl)<|ZDc 6 rfl Zl (X.fldB (j := 1) Zu56 rfl rfl Zs9 rfl)<|ZD 7 rfl Zl (fun w' hk' => X.load1B Zi9 (hBq.keep ((((hk1.trans hk2).step hx3 zq29).trans hk4).trans hk')) rfl rfl) ?_
  refine ZDc 8 rfl Zl (X.fldB (j := 0) Zu106 rfl rfl Zs3 rfl)<|ZD 9 rfl Zl (fun w' hk' => X.load1B Zi3 (hB3.keep (hk4.trans hk')) rfl rfl)<|ZDc 10 rfl Zl (X.fldB (j := 1) Zu106 rfl rfl Zs3 rfl)<|ZD 11 rfl Zl (fun w' hk' => X.load1B Zi3 (hB3.keep (hk4.trans hk')) rfl rfl)<|X.dE (i := 12) Zl rfl (X.dwN rfl) (X.callE (readR_c (hD.keep (((hk1.trans hk2).step hx3 zq29).trans hk4)) hok nm _ _ ⟨by omega, by omega, by omega, by omega⟩) Tryz.call40 rfl rfl) (by rintro _ w5 ⟨vr, rfl, hMr, hk5⟩ _; exact hk5.mono (fun _ _ h => h.elim)) ?_
  rintro _ w5 ⟨vr, rfl, hMr, hk5⟩
  have hk5' := hk5.size
  refine ZDc 13 rfl Zl (X.move rfl)<|ZDc 14 rfl Zl (X.extr rfl rfl)<|ZDc 15 rfl Zl (X.extr rfl rfl)<|ZDc 16 rfl Zl (X.assign rfl)<|X.dStep (i := 17) Zl rfl (X.dwN rfl) (X.assign (v := .int .i64 _) rfl) (fun h => absurd h (by decide))<|Zdend Zl<|Zs<|Zs<|Zr<|Zomi rfl rfl<|X.opP X.wN rfl rfl (X.neI rfl rfl) (fun h35 => ?_) (fun h35 => ?_)
  ·exact absurd hrd h35
  ·refine Ze<|Zf rfl<|Zk<|Zs<|Zr<|Zom rfl rfl<|Zo (X.fldB (j := 2) Zu106 rfl rfl Zs38 rfl) rfl<|Zo (X.load1B Zi38 (hB3.keep (hk4.trans hk5)) rfl rfl) rfl ?_
   have q7 := hMr.slF KB_flat 0 (fun _ _ => Nat.zero_le _)
   obtain ⟨A7, c7, rfl, hc7, hs7⟩ := q7
   refine Zc (X.callE (page_c _ hs7 Zz Zz Zz (hts.keep ((((hk1.trans hk2).step hx3 zq29).trans hk4).trans hk5)) Zz (hTb.keep ((((hk1.trans hk2).step hx3 zq29).trans hk4).trans hk5))) Tryz.call43 rfl rfl) rfl ?_
   rintro vp w6 ⟨hpm, hk6⟩
   have hvp : ∃ a1 a2, vp = .tuple #[a1, .int .i64 a2] := by
     revert hpm
     cases pgP (s.read nm (q.1 : Int) (q.2.1 : Int)).1 q.2.2 with
     | none => rintro rfl; exact ⟨_, _, rfl⟩
     | some p => rintro ⟨v, L, m, S, G, rfl, _⟩; exact ⟨_, _, rfl⟩
   obtain ⟨a1, a2, rfl⟩ := hvp
   have hk6' := hk6.size
   refine Zo (X.extr rfl rfl) rfl<|Zo (X.extr rfl rfl) rfl<|Zoa rfl rfl<|Zoai rfl rfl<|Ze<|X.ret2 (v2 := (.int .i64 _)) Tryz.func15 Tryz.results15 rfl rfl ?_
   refine ⟨?_, (((((hk1.trans hk2).step hx3 zq29).trans hk4).trans hk5).trans hk6)⟩
   revert hpm
   cases pgP (s.read nm (q.1 : Int) (q.2.1 : Int)).1 q.2.2 with
   | none => exact id
   | some p => exact fun ⟨v, L, m, S, G, e, hN⟩ => ⟨v, L, m, S, G, e, hN.low Zz⟩
def DS.runW (nm : ByteArray) (l : List CD) (s : DS) : Int × DS :=
  if isR l = false then (70, s) else if (s.create nm).1 ≠ 0 then s.create nm
  else if ((s.create nm).2.write nm 0 (runB l)).1 ≠ 0 then (s.create nm).2.write nm 0 (runB l)
  else ((s.create nm).2.write nm 0 (runB l)).2.sync nm
theorem DS.Inv.runW {s : DS} (h : s.Inv) (nm : ByteArray) (l : List CD) : (s.runW nm l).2.Inv := by
  rw [DS.runW]; split
  · exact h
  · split
    · exact h.create nm
    · split
      · exact (h.create nm).write nm 0 _
      · exact ((h.create nm).write nm 0 _).sync nm
theorem rWrite_c {col : Nat → Nat} {b : Nat} {s : DS} (nm : ByteArray) {lo hi : Nat} {A : Option Addr} {n c : Nat} {l : List CD} (w : World) (hs : Sl KC lo hi w A n l) (hhi : hi ≤ w.heap.size) (h : DkR col w b s) (hi : s.Inv) (hnm : nm.size ≤ 9223372036854775807) (hsz : s.size ≤ 100000) (hnc : n ≤ c) (hn : n ≤ 100) (hok : Oks l) (hTb : TabOk w) : Ret Tryz.prog 13 #[ptrV b, .string nm, .slice A n c] w fun r w' => r = .int .i64 (s.runW nm l).1 ∧ ∃ col', DkR col' w' b (s.runW nm l).2 ∧ Stp col w col' w' := by
 refine X.enter Zf13 rfl Tryz.ntmps13 rfl<|Zs<|Zr<|Zoa rfl rfl<|Ze<|Zs<|Zr<|Zom rfl rfl<|Zc (X.callE (Bytes_c w hs hhi hnc hn hok hTb) Zc18 rfl rfl) rfl ?_
 rintro _ w1 ⟨vB, rfl, hMB, hk1⟩
 obtain ⟨AB, cB, rfl, hcB, hsB⟩ := hMB.slF KB_flat w.heap.size (fun _ h => h)
 have hz1' := hk1.size
 refine Zom rfl rfl<|Zo (X.extr rfl rfl) rfl<|Zo (X.extr rfl rfl) rfl<|Zoas rfl rfl<|Zoai rfl rfl<|Ze<|Zs<|Zs<|Zr<|Zomi rfl rfl<|X.opP X.wN rfl rfl (X.eqI rfl rfl) (fun h15 => ?_) (fun h15 => ?_)
 ·have hrT : isR l = true := by
    cases hq : isR l with
    | true => rfl
    | false => rw [hq] at h15; exact absurd h15 (by decide)
  have hRl : (if isR l = true then runB l else []) = runB l := if_pos hrT
  have hsB0 := hsB
  rw [hRl] at hsB0
  have hrs := (run_sizes hok hrT (by rw [hs.len]; omega)).2.2.2
  refine Ze<|Zt rfl<|Zr<|Zom rfl rfl<|Zomg rfl rfl<|Zc (X.callE (createR_c (h.keep hk1) hi.ok nm hnm hsz) Tryz.call31 rfl rfl) rfl ?_
  rintro _ w2 ⟨rfl, col1, hD1, hS1⟩
  have hx2 := hS1.2
  have hx2' := hx2.size
  refine Zoai rfl rfl<|Ze<|Zs<|Zs<|Zr<|Zomi rfl rfl<|X.opP X.wN rfl rfl (X.eqI rfl rfl) (fun h20 => ?_) (fun h20 => ?_)
  ·have hsB' := ((sl_cast hsB hRl).ext hx2 (by intro q g1 g2 g3; exact g3 (Classical.byContradiction fun e => by have := h.lt q e; omega)))
   refine Ze<|Zt rfl<|Zr<|Zom rfl rfl<|Zomg rfl rfl<|Zoms rfl rfl<|Zc (X.callE (writeR_c hD1 (hi.create nm).ok nm 0 (by decide) (show Sl KB w.heap.size _ _ AB _ (runB l) from hsB') (fun q g1 g2 => ⟨(hS1.1 q g2).trans (Classical.byContradiction fun e => by have := h.lt q e; omega), by have := hS1.2.size; omega⟩) (by rw [hRl] at *; omega)) Tryz.call37 rfl rfl) rfl ?_
   rintro _ w3 ⟨rfl, col2, hD2, hS2⟩
   have hx3 := hS2.2
   have hx3' := hx3.size
   refine Zoai rfl rfl<|Ze<|Zs<|Zs<|Zr<|Zomi rfl rfl<|X.opP X.wN rfl rfl (X.eqI rfl rfl) (fun h26 => ?_) (fun h26 => ?_)
   ·
    refine Ze<|Zt rfl<|Zr<|Zom rfl rfl<|Zomg rfl rfl<|Zc (X.callE (syncR_c hD2 ((hi.create nm).write nm 0 _).ok nm hnm) Tryz.call38 rfl rfl) rfl ?_
    rintro _ w4 ⟨rfl, col3, hD3, hS3⟩
    have hx4 := hS3.2
    have hx4' := hx4.size
    refine Zoai rfl rfl<|Ze<|Zs<|Zr<|Zomi rfl rfl<|Zoai rfl rfl<|Ze<|X.ret1 (v := (.int .i64 _)) Zf13 Zr13 rfl ?_
    have e : s.runW nm l = ((s.create nm).2.write nm 0 (runB l)).2.sync nm := by rw [DS.runW, if_neg (by rw [hrT]; decide), if_neg (fun e => e h20), if_neg (fun e => e h26)]
    rw [e]
    exact ⟨rfl, col3, hD3, Keep.dk hk1 (hS1.trans (hS2.trans hS3))⟩
   ·have hdead := h26
    refine Ze<|Zf rfl<|Zk<|Zs<|Zr<|Zomi rfl rfl<|Zoai rfl rfl<|Ze<|X.ret1 (v := (.int .i64 _)) Zf13 Zr13 rfl ?_
    have e : s.runW nm l = (s.create nm).2.write nm 0 (runB l) := by rw [DS.runW, if_neg (by rw [hrT]; decide), if_neg (fun e => e h20), if_pos hdead]
    rw [e]
    exact ⟨rfl, col2, hD2, Keep.dk hk1 (hS1.trans hS2)⟩
  ·have hdead := h20
   refine Ze<|Zf rfl<|Zk<|Zs<|Zs<|Zr<|Zomi rfl rfl<|X.opP X.wN rfl rfl (X.eqI rfl rfl) (fun h26 => ?_) (fun h26 => ?_)
   ·exact absurd h26 hdead
   ·
    refine Ze<|Zf rfl<|Zk<|Zs<|Zr<|Zomi rfl rfl<|Zoai rfl rfl<|Ze<|X.ret1 (v := (.int .i64 _)) Zf13 Zr13 rfl ?_
    have e : s.runW nm l = s.create nm := by rw [DS.runW, if_neg (by rw [hrT]; decide), if_pos hdead]
    rw [e]
    exact ⟨rfl, col1, hD1, Keep.dk hk1 hS1⟩
 ·have hdead := h15
  have hrF : isR l = false := by
    cases hq : isR l with
    | false => rfl
    | true => rw [hq] at h15; exact absurd rfl h15
  refine Ze<|Zf rfl<|Zk<|Zs<|Zs<|Zr<|Zomi rfl rfl<|X.opP X.wN rfl rfl (X.eqI rfl rfl) (fun h20 => ?_) (fun h20 => ?_)
  ·exact absurd h20 hdead
  ·
   refine Ze<|Zf rfl<|Zk<|Zs<|Zs<|Zr<|Zomi rfl rfl<|X.opP X.wN rfl rfl (X.eqI rfl rfl) (fun h26 => ?_) (fun h26 => ?_)
   ·exact absurd h26 hdead
   ·
    refine Ze<|Zf rfl<|Zk<|Zs<|Zr<|Zomi rfl rfl<|Zoai rfl rfl<|Ze<|X.ret1 (v := (.int .i64 _)) Zf13 Zr13 rfl ?_
    have e : s.runW nm l = (70, s) := by rw [DS.runW, if_pos hrF]
    rw [e]
    exact ⟨by rw [hrF]; rfl, col, h.keep hk1, Stp.keep hk1⟩
theorem read_whole {s : DS} {nm : ByteArray} (h : (s.sizeOf nm).2 = 0) : (s.read nm 0 (s.sizeOf nm).1).2 = 0 ∧ ((s.read nm 0 (s.sizeOf nm).1).1.length : Int) = (s.sizeOf nm).1 ∧ 0 ≤ (s.sizeOf nm).1 := by
  rw [DS.sizeOf] at h ⊢
  cases ha : asc nm s.dir with
  | none => rw [ha] at h; exact absurd h (show ¬ (52 : Int) = 0 by decide)
  | some k =>
    rw [DS.read, ha]
    have e : (fat s.fs k).1.length = flen s.fs k := rfl
    simp only [e]
    rw [if_neg Zz]
    refine ⟨rfl, ?_, by omega⟩
    simp only [Int.toNat_zero, List.drop_zero, Int.toNat_natCast]
    rw [List.take_of_length_le (by rw [e]; omega), e]
def DS.whole (s : DS) (nm : ByteArray) : List UInt8 := (s.read nm 0 (s.sizeOf nm).1).1
theorem rOpen_c {col : Nat → Nat} {w : World} {b : Nat} {s : DS} (hD : DkR col w b s) (hok : s.Ok) (nm : ByteArray) (hsz : (s.sizeOf nm).1 ≤ 1000000) (hTb : TabOk w) : Ret Tryz.prog 14 #[ptrV b, .string nm] w fun rv w' => (if (s.sizeOf nm).2 ≠ 0 then rv = .tuple #[.pointer none, .int .i64 (s.sizeOf nm).2] else match idxP (s.whole nm) with
    | none => rv = .tuple #[.pointer none, .int .i64 71]
    | some (l, k) => ∃ r, rv = .tuple #[ptrV r, .int .i64 0] ∧ w.heap.size ≤ r ∧ r < w'.heap.size ∧ RunO w.heap.size w'.heap.size w' r b nm l k) ∧ Keep w w' := by
 refine X.enter Zf14 rfl Tryz.ntmps14 rfl<|Zs<|Zr<|Zoa rfl rfl<|Zoa rfl rfl<|Ze<|Zs<|Zr<|Zom rfl rfl<|Zomg rfl rfl<|Zc (X.callE (sizeR_c hD hok nm) Tryz.call39 rfl rfl) rfl ?_
 rintro _ w1 ⟨rfl, hk1⟩
 have hk1' := hk1.size
 refine Zom rfl rfl<|Zo (X.extr rfl rfl) rfl<|Zo (X.extr rfl rfl) rfl<|Zoai rfl rfl<|Zoai rfl rfl<|Ze<|Zs<|Zs<|Zr<|Zomi rfl rfl<|X.opP X.wN rfl rfl (X.neI rfl rfl) (fun h18 => ?_) (fun h18 => ?_)
 ·have hsz0 := h18
  refine Ze<|Zt rfl<|Zs<|Zr<|Zomi rfl rfl<|Zoa rfl rfl<|Zoai rfl rfl<|Ze<|X.ret2 (v2 := (.int .i64 _)) Zf14 Zr14 rfl rfl ?_
  refine ⟨?_, hk1⟩
  rw [if_pos hsz0]
  rfl
 ·have hsz0 : (s.sizeOf nm).2 = 0 := Classical.byContradiction h18
  obtain ⟨hr1, hr2, hr3⟩ := read_whole hsz0
  refine Ze<|Zf rfl<|Zk<|Zs<|Zr<|Zom rfl rfl<|Zomg rfl rfl<|Zomi rfl rfl<|Zc (X.callE (readR_c (hD.keep hk1) hok nm 0 (s.sizeOf nm).1 ⟨by decide, by decide, by omega, by omega⟩) Tryz.call40 rfl rfl) rfl ?_
  rintro _ w2 ⟨vr, rfl, hMr, hk2⟩
  obtain ⟨Ar, cr, rfl, hcr, hsr⟩ := hMr.slF KB_flat 0 (fun _ _ => Nat.zero_le _)
  have hk2' := hk2.size
  refine Zom rfl rfl<|Zo (X.extr rfl rfl) rfl<|Zo (X.extr rfl rfl) rfl<|Zoas rfl rfl<|Zoai rfl rfl<|Ze<|Zs<|Zs<|Zr<|Zomi rfl rfl<|X.opP X.wN rfl rfl (X.neI rfl rfl) (fun h28 => ?_) (fun h28 => ?_)
  ·exact absurd hr1 h28
  ·refine Ze<|Zf rfl<|Zk<|Zs<|Zr<|Zoms rfl rfl<|Zc (X.callE (index_c (xs := s.whole nm) _ hsr Zz hcr Zz (hTb.keep (hk1.trans hk2))) Tryz.call41 rfl rfl) rfl ?_
   rintro vi w3 ⟨him, hk3⟩
   have hvi : ∃ a1 a2 a3 a4 a5, vi = .tuple #[.slice a1 a2 a3, .int .i64 a4, .int .i64 a5] := by
     revert him
     cases idxP (s.whole nm) with
     | none => rintro rfl; exact ⟨_, _, _, _, _, rfl⟩
     | some p => rintro ⟨v, L, m, S, G, rfl, hN⟩; obtain ⟨A, c, rfl, _⟩ := nrow_lf hN; exact ⟨_, _, _, _, _, rfl⟩
   obtain ⟨a1, a2, a3, a4, a5, rfl⟩ := hvi
   have hk3' := hk3.size
   refine Zom rfl rfl<|Zo (X.extr rfl rfl) rfl<|Zo (X.extr rfl rfl) rfl<|Zo (X.extr rfl rfl) rfl<|Zoa rfl rfl<|Zoai rfl rfl<|Zoai rfl rfl<|Ze<|Zs<|Zs<|Zr<|Zomi rfl rfl<|X.opP X.wN rfl rfl (X.neI rfl rfl) (fun h37 => ?_) (fun h37 => ?_)
   ·
    refine Ze<|Zt rfl<|Zs<|Zr<|Zomi rfl rfl<|Zoa rfl rfl<|Zoai rfl rfl<|Ze<|X.ret2 (v2 := (.int .i64 _)) Zf14 Zr14 rfl rfl ?_
    refine ⟨?_, ((hk1.trans hk2).trans hk3)⟩
    rw [if_neg (fun e => e hsz0)]
    revert him
    cases hx : idxP (s.whole nm) with
    | none => intro e; injection e with e; cases e; rfl
    | some p => rintro ⟨v, L, m, S, G, e, hN⟩; injection e with e; cases e; exact absurd rfl h37
   ·refine Ze<|Zf rfl<|Zk<|Zs<|Zr<|Zom rfl rfl<|Zomg rfl rfl<|Zom rfl rfl<|Zomi rfl rfl<|Zo (X.buildB (vs := [(0, ptrV b), (1, .string nm), (2, .slice a1 a2 a3), (3, .int .i64 a4)]) (cs := #[ptrV b, .string nm, .slice a1 a2 a3, .int .i64 a4]) rfl Zl) rfl<|Zc (X.boxE rfl rfl) rfl ?_
    rintro _ w4 ⟨rfl, hB4, hk4, hz4⟩
    refine Zoa rfl rfl<|Zoa rfl rfl<|Ze<|X.ret2 (v2 := (.int .i64 _)) Zf14 Zr14 rfl rfl ?_
    refine ⟨?_, (((hk1.trans hk2).trans hk3).trans hk4)⟩
    rw [if_neg (fun e => e hsz0)]
    revert him
    cases hx : idxP (s.whole nm) with
    | none => intro e; injection e with e; cases e; exact absurd (Classical.byContradiction h37) (by decide)
    | some p =>
      obtain ⟨l, k⟩ := p
      rintro ⟨v, L, m, S, G, e, hN⟩
      obtain ⟨A, c, rfl, hc, hL⟩ := nrow_lf hN
      injection e with e; cases e
      have hz := (hB4).lt
      have hzz := (hk4).size
      refine ⟨_, rfl, by omega, hz, a1, a3, hB4, hc, ?_⟩
      obtain ⟨L', h1, h2⟩ := hL.keep hk4
      exact ⟨L', h1.wide Zz Zz, Nd.All.mono h2 fun q hq => ⟨by omega, by omega⟩⟩
def RS.runW (nm : ByteArray) (l : List CD) (t : RS) : Int × RS :=
  if isR l = false then (70, t) else if (t.create nm).1 ≠ 0 then t.create nm
  else if ((t.create nm).2.write nm 0 (runB l)).1 ≠ 0 then (t.create nm).2.write nm 0 (runB l)
  else ((t.create nm).2.write nm 0 (runB l)).2.sync nm
theorem Tie.runW {s : DS} {t : RS} (h : Tie s t) (hi : s.Inv) (nm : ByteArray) (l : List CD) : Both (s.runW nm l) (t.runW nm l) := by
  have h1 := h.create hi.ok nm
  have i1 := hi.create nm
  have h2 := h1.2.write i1.ok nm 0 (runB l)
  have i2 := i1.write nm 0 (runB l)
  have h3 := h2.2.sync i2.ok nm
  rw [DS.runW, RS.runW]
  split
  · exact ⟨rfl, h⟩
  · rw [h1.1, h2.1]
    split
    · exact h1
    · split
      · exact h2
      · exact h3
theorem entB_T {q : CD} (h : isT q.1 = true) : entB q = cntB q.1 q.2 := by rw [entB, if_pos h]
theorem ents_back : ∀ {p : List CD}, Oks p → (∀ q, q ∈ p → isT q.1 = true) → ents p.length (p.flatMap entB) = some p
  | [], _, _ => rfl
  | q :: p, h, hT => by
    have h1 := h q List.mem_cons_self
    have h2 := hT q List.mem_cons_self
    rw [List.flatMap_cons, entB_T h2, List.length_cons, ents_b (y := (q, p.flatMap entB)) (pCnt_back h2 h1.2 q.2 h1.1 _), ents_back (fun z hz => h z (List.mem_cons_of_mem _ hz)) (fun z hz => hT z (List.mem_cons_of_mem _ hz))]; rfl
theorem isR_lt {l : List CD} (h : isR l = true) : ∀ (i j : Nat) (p q : CD), i < j → l[i]? = some p → l[j]? = some q → cmpT p.1 q.1 < 0 := by
  have key : ∀ (d i : Nat) (p q : CD), l[i]? = some p → l[i + d + 1]? = some q → cmpT p.1 q.1 < 0 := by
    intro d
    induction d with
    | zero =>
      intro i p q hp hq
      exact (okAt_t hq (isR_at h _)).2.2 Zz p (by rw [show i + 0 + 1 - 1 = i by omega]; exact hp)
    | succ d ih =>
      intro i p q hp hq
      obtain ⟨u, hu⟩ : ∃ u, l[i + d + 1]? = some u := ⟨_, List.getElem?_eq_getElem (by have := (List.getElem?_eq_some_iff.1 hq).1; omega)⟩
      exact cmpT_trans _ _ _ (ih i p u hp hu) ((okAt_t hq (isR_at h _)).2.2 Zz u (by rw [show i + (d + 1) + 1 - 1 = i + d + 1 by omega]; exact hu))
  intro i j p q hij hp hq
  exact key (j - i - 1) i p q hp (by rw [show i + (j - i - 1) + 1 = j by omega]; exact hq)
theorem isR_of {l : List CD} (h1 : ∀ q, q ∈ l → isT q.1 = true ∧ q.2 ≠ 0) (h2 : ∀ (i : Nat) p q, l[i]? = some p → l[i + 1]? = some q → cmpT p.1 q.1 < 0) : isR l = true := by
  refine isR_T fun j hj => ?_
  obtain ⟨q, hq⟩ : ∃ q, l[j]? = some q := ⟨_, List.getElem?_eq_getElem hj⟩
  obtain ⟨a, b⟩ := h1 q (List.mem_of_getElem? hq)
  rcases Nat.eq_zero_or_pos j with h0 | h0
  · exact okAt_T0 hq a b h0
  · obtain ⟨p, hp⟩ : ∃ p, l[j - 1]? = some p := ⟨_, List.getElem?_eq_getElem Zz⟩
    exact okAt_T hq a b hp (h2 (j - 1) p q hp (by rw [show j - 1 + 1 = j by omega]; exact hq))
theorem isR_sub {a p b : List CD} (h : isR (a ++ (p ++ b)) = true) : isR p = true := by
  refine isR_of (fun q hq => isR_T' h q (by simp [hq])) fun i x y hx hy => ?_
  have hl := (List.getElem?_eq_some_iff.1 hy).1
  refine isR_lt h (a.length + i) (a.length + (i + 1)) x y Zz ?_ ?_
  · rw [List.getElem?_append_right Zz, Nat.add_sub_cancel_left, List.getElem?_append_left Zz]; exact hx
  · rw [List.getElem?_append_right Zz, Nat.add_sub_cancel_left, List.getElem?_append_left Zz]; exact hy
theorem flat_split {α : Type} {ps : List (List α)} {j : Nat} {p : List α} (h : ps[j]? = some p) : ps.flatten = (ps.take j).flatten ++ (p ++ (ps.drop (j + 1)).flatten) := by
  obtain ⟨hj, e⟩ := List.getElem?_eq_some_iff.1 h
  have h1 : ps = ps.take j ++ (p :: ps.drop (j + 1)) := by rw [← e, ← List.drop_eq_getElem_cons hj, List.take_append_drop]
  conv => lhs; rw [h1]
  rw [List.flatten_append, List.flatten_cons]
theorem pgs_R {l p : List CD} (h : isR l = true) {j : Nat} (hp : (pgs l)[j]? = some p) : isR p = true := by
  have e := flat_split hp
  rw [pgs_flat] at e
  rw [e] at h
  exact isR_sub h
theorem pgP_back {p : List CD} (h : Oks p) (hr : isR p = true) (hne : p ≠ []) (hl : p.length ≤ 100) : pgP (pageB p) (headT p) = some p := by
  have ho := open_seal (numB p.length ++ p.flatMap entB)
  have hn : pNum 0 0 (openC (pageB p)).2 = some (p.length, p.flatMap entB) := by
    rw [pageB, ho]
    have := pNum_back p.length 0 0 (p.flatMap entB) Zz Zz Zz
    simpa using this
  rw [pg_c (by rw [pageB, ho]) hn, ents_back h (fun q hq => (isR_T' hr q hq).1)]
  exact pgF_T hne hr (cmpT_self _)
def lvs : Nat → List (List CD) → List LEAF
  | _, [] => []
  | a, p :: ps => (a, (pageB p).length, headT p) :: lvs (a + (pageB p).length) ps
theorem lvs_len : ∀ (ps : List (List CD)) (a : Nat), (lvs a ps).length = ps.length
  | [], _ => rfl
  | p :: ps, a => by rw [lvs, List.length_cons, List.length_cons, lvs_len ps]
theorem lvs_at : ∀ {ps : List (List CD)} {a j : Nat} {p : List CD}, ps[j]? = some p → (lvs a ps)[j]? = some (a + ((ps.take j).flatMap pageB).length, (pageB p).length, headT p)
  | [], _, _, _, h => by simp at h
  | q :: ps, a, 0, p, h => by simp at h; subst h; simp [lvs]
  | q :: ps, a, j + 1, p, h => by
    have h' : ps[j]? = some p := by simpa using h
    rw [lvs, List.getElem?_cons_succ, lvs_at h', List.take_succ_cons, List.flatMap_cons, List.length_append, Nat.add_assoc]
theorem parts_back {all : Nat} : ∀ {ps : List (List CD)} {a : Nat} {last : Option (List VAL)}, (∀ p, p ∈ ps → Oks p ∧ isR p = true ∧ p ≠ [] ∧ p.length ≤ 100) → all = a + (ps.flatMap pageB).length → (∀ u, last = some u → ∀ p, ps[0]? = some p → cmpT u (headT p) < 0) → (∀ (i : Nat) p q, ps[i]? = some p → ps[i + 1]? = some q → cmpT (headT p) (headT q) < 0) →
    parts all ps.length a last (ps.flatMap leafB) = some (lvs a ps)
  | [], a, last, _, ha, _, _ => by rw [List.flatMap_nil, List.length_nil, parts, if_pos ⟨rfl, by simpa using ha.symm⟩]; rfl
  | p :: ps, a, last, h, ha, h1, h2 => by
    obtain ⟨ho, hr, hne, hl⟩ := h p List.mem_cons_self
    have hps := pageB_le ho hl
    have hT : ∀ q, q ∈ p → isT q.1 = true := fun q hq => (isR_T' hr q hq).1
    have hk := headT_ok ho hT
    have hb1 : pNum 0 0 ((p :: ps).flatMap leafB) = some ((pageB p).length, textB (keyB (headT p)) ++ ps.flatMap leafB) := by
      rw [List.flatMap_cons, leafB, List.append_assoc]
      have := pNum_back (pageB p).length 0 0 (textB (keyB (headT p)) ++ ps.flatMap leafB) Zz Zz Zz
      simpa using this
    have hb2 : pText 1048576 (textB (keyB (headT p)) ++ ps.flatMap leafB) = some (keyB (headT p), ps.flatMap leafB) := pText_back _ _ _ Zz Zz
    have hhT : isT (headT p) = true ∧ ∀ v, v ∈ headT p → okV v := by
      cases p with
      | nil => exact absurd rfl hne
      | cons q r => exact ⟨hT q List.mem_cons_self, (ho q List.mem_cons_self).2⟩
    have hb3 : pFrom (keyB (headT p)) = some (headT p) := pFrom_back hhT.1 hhT.2
    rw [List.flatMap_cons, List.length_append] at ha
    rw [List.length_cons, parts_5 (z := ((pageB p).length, _)) (y := (keyB (headT p), ps.flatMap leafB)) hb1 hb2 hb3 (by
      rintro (hh | hh)
      · simp only at hh; omega
      · cases last with
        | none => cases hh
        | some u => have := h1 u rfl p rfl; have := of_decide_eq_true hh; omega),
      parts_back (ps := ps) (a := a + (pageB p).length) (fun q hq => h q (List.mem_cons_of_mem _ hq)) (by show all = a + (pageB p).length + _; omega) (fun u hu q hq => by cases hu; exact h2 0 p q rfl (by simpa using hq)) (fun i x y hx hy => h2 (i + 1) x y (by simpa using hx) (by simpa using hy))]
    rfl
theorem head_at {p : List CD} (hne : p ≠ []) : ∃ q, p[0]? = some q ∧ headT p = q.1 := by
  cases p with
  | nil => exact absurd rfl hne
  | cons q r => exact ⟨q, rfl, rfl⟩
theorem pgs_at {l p : List CD} {j i : Nat} {q : CD} (hp : (pgs l)[j]? = some p) (hq : p[i]? = some q) : l[((pgs l).take j).flatten.length + i]? = some q := by
  have e := flat_split hp
  rw [pgs_flat] at e
  have h2 : l[((pgs l).take j).flatten.length + i]? = (((pgs l).take j).flatten ++ (p ++ ((pgs l).drop (j + 1)).flatten))[((pgs l).take j).flatten.length + i]? := congrArg (fun z => z[((pgs l).take j).flatten.length + i]?) e
  rw [h2, List.getElem?_append_right Zz, Nat.add_sub_cancel_left, List.getElem?_append_left (List.getElem?_eq_some_iff.1 hq).1]
  exact hq
theorem take_flat {α : Type} {ps : List (List α)} {j j' : Nat} {p : List α} (h : ps[j]? = some p) (hj : j < j') : (ps.take j).flatten.length + p.length ≤ (ps.take j').flatten.length := by
  have h1 : (ps.take j')[j]? = some p := by rw [List.getElem?_take, if_pos hj]; exact h
  have e := congrArg List.length (flat_split h1)
  rw [List.take_take, Nat.min_eq_left Zz, List.length_append, List.length_append] at e
  omega
theorem heads_lt {l p q : List CD} (hr : isR l = true) {i j : Nat} (hij : i < j) (hp : (pgs l)[i]? = some p) (hq : (pgs l)[j]? = some q) : cmpT (headT p) (headT q) < 0 := by
  obtain ⟨x, hx, ex⟩ := head_at (pgs_ne (List.mem_of_getElem? hp))
  obtain ⟨y, hy, ey⟩ := head_at (pgs_ne (List.mem_of_getElem? hq))
  rw [ex, ey]
  have h1 := take_flat hp hij
  have h2 := (List.getElem?_eq_some_iff.1 hx).1
  exact isR_lt hr _ _ x y Zz (pgs_at hp hx) (pgs_at hq hy)
theorem asc_lvs {l : List CD} (hr : isR l = true) : Asc (lvs 0 (pgs l)) := by
  refine List.pairwise_iff_getElem.2 fun i j hi hj hij => ?_
  rw [lvs_len] at hi hj
  have e1 := lvs_at (a := 0) (List.getElem?_eq_getElem hi)
  have e2 := lvs_at (a := 0) (List.getElem?_eq_getElem hj)
  rw [(List.getElem?_eq_some_iff.1 e1).2, (List.getElem?_eq_some_iff.1 e2).2]
  exact heads_lt hr hij (List.getElem?_eq_getElem hi) (List.getElem?_eq_getElem hj)
theorem le4_low {k : Nat} (h : k < 4294967296) : le4 (low4 k) = k := by
  have e : ∀ a : Nat, (UInt8.ofNat a).toNat = a % 256 := fun a => by rw [UInt8.toNat_ofNat']
  rw [low4, le4]
  simp only [List.getD_cons_zero, List.getD_cons_succ, e]
  omega
theorem idxP_back {l : List CD} (h : Oks l) (hr : isR l = true) (hl : l.length ≤ 100) : idxP (runB l) = some (lvs 0 (pgs l), l.length) := by
  obtain ⟨z1, z2, z3, z4⟩ := run_sizes h hr hl
  have hpl := pgs_len l
  have ht8 : (tailB (idxB (pgs l) l.length).length).length = 8 := by rw [tailB, seal_len]; rfl
  have hlen : (runB l).length = ((pgs l).flatMap pageB).length + (idxB (pgs l) l.length).length + 8 := by rw [runB, List.length_append, List.length_append, ht8]
  have hT : openC ((runB l).drop ((runB l).length - 8)) = (0, low4 (idxB (pgs l) l.length).length) := by
    rw [hlen, Nat.add_sub_cancel, runB, List.drop_append_of_le_length (by rw [List.length_append]; omega), List.drop_of_length_le (by rw [List.length_append]; omega), List.nil_append, tailB, open_seal]
  have hle : le4 (openC ((runB l).drop ((runB l).length - 8))).2 = (idxB (pgs l) l.length).length := by rw [hT]; exact le4_low Zz
  rw [idx_c Zz (by rw [hT]), ]
  generalize hg : (openC ((runB l).drop ((runB l).length - 8))).2 = t at hle ⊢
  have hall : (runB l).length - 8 - le4 t = ((pgs l).flatMap pageB).length := by rw [hlen, hle]; omega
  have hI : openC (((runB l).take ((runB l).length - 8 - le4 t + le4 t)).drop ((runB l).length - 8 - le4 t)) = (0, numB (pgs l).length ++ numB l.length ++ (pgs l).flatMap leafB) := by
    rw [hall, hle, List.drop_take, Nat.add_sub_cancel_left, runB, List.append_assoc, List.drop_left, List.take_left, idxB, open_seal]
  rw [idx_f (by rw [hle]; omega) (by rw [hI]), hI, hall]
  have hn1 : pNum 0 0 (numB (pgs l).length ++ numB l.length ++ (pgs l).flatMap leafB) = some ((pgs l).length, numB l.length ++ (pgs l).flatMap leafB) := by
    rw [List.append_assoc]
    have := pNum_back (pgs l).length 0 0 (numB l.length ++ (pgs l).flatMap leafB) Zz Zz Zz
    simpa using this
  have hn2 : pNum 0 0 (numB l.length ++ (pgs l).flatMap leafB) = some (l.length, (pgs l).flatMap leafB) := by
    have := pNum_back l.length 0 0 ((pgs l).flatMap leafB) Zz Zz Zz
    simpa using this
  rw [idx_j (z := ((pgs l).length, _)) (y := (l.length, _)) hn1 hn2 (by simp only; omega)]
  simp only
  rw [parts_back (a := 0) (last := none) (fun p hp => ?_) Zz (fun u hu => by cases hu) (fun i p q hp hq => heads_lt hr (Nat.lt_succ_self i) hp hq)]
  · rfl
  · obtain ⟨j, hj⟩ := List.getElem?_of_mem hp
    exact ⟨h.sub (pgs_sub hp), pgs_R hr hj, pgs_ne hp, Nat.le_trans (pgs_plen hp) hl⟩
theorem page_at {l p : List CD} {j : Nat} (hp : (pgs l)[j]? = some p) : ((runB l).drop (0 + (((pgs l).take j).flatMap pageB).length)).take (pageB p).length = pageB p := by
  obtain ⟨hj, e⟩ := List.getElem?_eq_some_iff.1 hp
  have h1 : pgs l = (pgs l).take j ++ (p :: (pgs l).drop (j + 1)) := by rw [← e, ← List.drop_eq_getElem_cons hj, List.take_append_drop]
  have h2 : (pgs l).flatMap pageB = ((pgs l).take j).flatMap pageB ++ (pageB p ++ ((pgs l).drop (j + 1)).flatMap pageB) := by conv => lhs; rw [h1]
                                                                                                                              rw [List.flatMap_append, List.flatMap_cons]
  rw [runB, h2, Nat.zero_add]
  simp only [List.append_assoc]
  rw [List.drop_left, List.take_left]
theorem create_ok {s : DS} {nm : ByteArray} (h : (s.create nm).1 = 0) : s.create nm = (0, (({ s with fs := s.fs ++ [([], [])] } : DS).note (⟨#[]⟩, nm, (s.fs.length : Int))).did) ∧ asc nm s.dir = none ∧ nm ≠ ⟨#[]⟩ ∧ s.down = false := by
  rw [DS.create] at h ⊢
  split at h
  · exact absurd h (by simp)
  · rename_i h1; split at h
    · exact absurd h (by simp)
    · rename_i h2; split at h
      · exact absurd h (by simp)
      · rename_i h3; split at h
        · exact absurd h (by simp)
        · rename_i h4
          rw [if_neg h1, if_neg h2, if_neg h3, if_neg h4]
          refine ⟨rfl, ?_, ?_, ?_⟩
          · cases ha : asc nm s.dir with
            | none => rfl
            | some k => rw [ha] at h3; exact absurd rfl h3
          · cases hq : rightN nm with
            | false => exact absurd hq h2
            | true => rw [rightN] at hq; exact (of_decide_eq_true hq).1
          · cases hq : s.down with
            | false => rfl
            | true => exact absurd hq h1
theorem write_ok {s : DS} {nm : ByteArray} {k : Int} {x : List UInt8} (h : (s.write nm 0 x).1 = 0) (ha : asc nm s.dir = some k) : s.write nm 0 x = (0, ({ s with fs := s.fs.set k.toNat (wrt (fat s.fs k).1 0 x, (fat s.fs k).2), ls := markL k 0 (touched 0 x.length) s.ls } : DS).did) := by
  rw [DS.write, ha] at h ⊢
  split at h
  · exact absurd h (by simp)
  · rename_i h1
    simp only at h ⊢
    split at h
    · exact absurd h (by simp)
    · rename_i h2; split at h
      · exact absurd h (by simp)
      · rename_i h3; split at h
        · exact absurd h (by simp)
        · rename_i h4; rw [if_neg h1, if_neg h2, if_neg h3, if_neg h4]; rfl
theorem sync_ok {s : DS} {nm : ByteArray} {k : Int} (h : (s.sync nm).1 = 0) (ha : asc nm s.dir = some k) : s.sync nm = (0, ({ s with fs := s.fs.set k.toNat ((fat s.fs k).1, (fat s.fs k).1), ls := s.ls.filter fun p => decide (p.1.1 ≠ k) } : DS).did) := by
  rw [DS.sync, ha] at h ⊢
  split at h
  · exact absurd h (by simp)
  · rename_i h1; rw [if_neg h1]
theorem markL_keys (k : Int) : ∀ (n s : Nat) (l : LS), (∀ p, p ∈ l → p.1.1 = k) → ∀ p, p ∈ markL k s n l → p.1.1 = k
  | 0, _, _, h => h
  | n + 1, s, l, h => markL_keys k n (s + 1) _ (fun p hp => by
      rcases put_mem hp with h1 | h1
      · rw [h1]
      · exact h p h1)
theorem markL_filter (k : Int) (s n : Nat) : (markL k s n []).filter (fun p => decide (p.1.1 ≠ k)) = [] := List.filter_eq_nil_iff.2 fun p hp => by
  have := markL_keys k n s [] (fun _ h => by cases h) p hp
  simp [this]
theorem wrt_nil (x : List UInt8) : wrt [] 0 x = x := by simp [wrt]
theorem fat_last (fs : List FILE) (f : FILE) : fat (fs ++ [f]) (fs.length : Int) = f := by
  rw [fat, List.getD_eq_getElem?_getD, Int.toNat_natCast, List.getElem?_append_right (Nat.le_refl _), Nat.sub_self]; rfl
theorem fat_set {fs : List FILE} {k : Nat} (f : FILE) (h : k < fs.length) : fat (fs.set k f) (k : Int) = f := by
  rw [fat, List.getD_eq_getElem?_getD, Int.toNat_natCast, List.getElem?_set_self h]; rfl
theorem runW_back {s : DS} {nm : ByteArray} {l : List CD} (h : (s.runW nm l).1 = 0) : isR l = true ∧ (∃ k : Nat, asc nm (s.runW nm l).2.dir = some (k : Int) ∧ fat (s.runW nm l).2.fs (k : Int) = (runB l, runB l)) ∧ (s.ls = [] → (s.runW nm l).2.ls = []) := by
  rw [DS.runW] at h ⊢
  split at h
  · exact absurd h (by simp)
  · rename_i h1
    split at h
    · rename_i h2; exact absurd h h2
    · rename_i h2
      split at h
      · rename_i h3; exact absurd h h3
      · rename_i h3
        rw [if_neg h1, if_neg h2, if_neg h3]
        have hR : isR l = true := by
          cases hq : isR l with
          | true => rfl
          | false => exact absurd hq h1
        obtain ⟨e1, g1, g2, g3⟩ := create_ok (Classical.byContradiction h2)
        have hd : asc nm (s.create nm).2.dir = some (s.fs.length : Int) := by
          rw [e1]
          show asc nm (trn (⟨#[]⟩, nm, (s.fs.length : Int)) s.dir) = _
          rw [trn_eq, if_neg g2, if_pos rfl, asc_put, if_pos rfl]
        have hf : fat (s.create nm).2.fs (s.fs.length : Int) = ([], []) := by rw [e1]; exact fat_last _ _
        have hl : (s.create nm).2.fs.length = s.fs.length + 1 := by rw [e1]; exact List.length_append
        have e2 := write_ok (Classical.byContradiction h3) hd
        rw [hf, wrt_nil] at e2
        have hd2 : asc nm ((s.create nm).2.write nm 0 (runB l)).2.dir = some (s.fs.length : Int) := by rw [e2]; exact hd
        have hf2 : fat ((s.create nm).2.write nm 0 (runB l)).2.fs (s.fs.length : Int) = (runB l, []) := by
          rw [e2]
          show fat ((s.create nm).2.fs.set (s.fs.length : Int).toNat (runB l, [])) _ = _
          rw [Int.toNat_natCast]; exact fat_set _ Zz
        have e3 := sync_ok h hd2
        rw [hf2] at e3
        refine ⟨hR, ⟨s.fs.length, by rw [e3]; exact hd2, ?_⟩, fun hls => ?_⟩
        · rw [e3]
          show fat (((s.create nm).2.write nm 0 (runB l)).2.fs.set (s.fs.length : Int).toNat (runB l, runB l)) _ = _
          rw [Int.toNat_natCast]
          refine fat_set _ ?_
          rw [e2]
          show _ < ((s.create nm).2.fs.set (s.fs.length : Int).toNat (runB l, [])).length
          rw [List.length_set]; omega
        · rw [e3, e2, e1]
          show (markL (s.fs.length : Int) 0 (touched 0 (runB l).length) s.ls).filter _ = []
          rw [hls]
          exact markL_filter _ _ _
theorem file_read {s : DS} {nm : ByteArray} {k : Nat} {x : List UInt8} (h1 : asc nm s.dir = some (k : Int)) (h2 : fat s.fs (k : Int) = (x, x)) : s.sizeOf nm = ((x.length : Int), 0) ∧ s.whole nm = x ∧ ∀ a n : Nat, a + n ≤ x.length → s.read nm (a : Int) (n : Int) = ((x.drop a).take n, 0) := by
  have e0 : s.sizeOf nm = ((x.length : Int), 0) := by
    rw [DS.sizeOf, h1]
    have : flen s.fs (k : Int) = (fat s.fs (k : Int)).1.length := rfl
    simp only [this, h2]
  have e1 : ∀ a n : Nat, a + n ≤ x.length → s.read nm (a : Int) (n : Int) = ((x.drop a).take n, 0) := fun a n han => by
    rw [DS.read, h1]
    simp only [h2]
    rw [if_neg Zz]; simp only [Int.toNat_natCast]
  refine ⟨e0, ?_, e1⟩
  rw [DS.whole, e0]
  have := e1 0 x.length Zz
  rw [show ((0 : Nat) : Int) = 0 from rfl] at this
  simp only [this, List.drop_zero, List.take_length]
theorem take_eq_step {α : Type} {l1 l2 : List α} {i : Nat} {x : α} (h : l1.take i = l2.take i) (h1 : l1[i]? = some x) (h2 : l2[i]? = some x) : l1.take (i + 1) = l2.take (i + 1) := by
  rw [List.take_add_one, List.take_add_one, h, h1, h2]
theorem CD_ext {a b : CD} (h1 : cmpT a.1 b.1 = 0) (h2 : a.2 = b.2) : a = b := Prod.ext ((cmpT_0 _ _).1 h1) h2
theorem RSame_c {lo1 hi1 lo2 hi2 : Nat} {A1 A2 : Option Addr} {n1 n2 c1 c2 : Nat} {l1 l2 : List CD} (w : World) (hs1 : Sl KC lo1 hi1 w A1 n1 l1) (hs2 : Sl KC lo2 hi2 w A2 n2 l2) : Ret Tryz.prog 23 #[.slice A1 n1 c1, .slice A2 n2 c2] w fun r w' => r = .bool (decide (l1 = l2)) ∧ Keep w w' := by
 obtain ⟨L1, hsL1, hLl1, hLt1⟩ := kc_hd hs1
 obtain ⟨L2, hsL2, hLl2, hLt2⟩ := kc_hd hs2
 have hsl1 := hs1.len
 have hsl2 := hs2.len
 have hsb1 := hs1.bound
 refine X.enter Zf23 rfl Tryz.ntmps23 rfl<|Zs<|Zr<|Zoa rfl rfl<|Ze<|Zs<|Zs<|Zr<|Zoms rfl rfl<|Zo (X.lenSl Zu22 rfl) rfl<|Zoms rfl rfl<|Zo (X.lenSl Zu22 rfl) rfl<|X.opP X.wN rfl rfl (X.neI rfl rfl) (fun h10 => ?_) (fun h10 => ?_)
 ·refine Ze<|Zt rfl<|Zs<|Zr<|Zoa rfl rfl<|Ze<|X.ret1 (v := (.bool _)) Zf23 Zr23 rfl ?_
  exact ⟨by rw [decide_eq_false (fun e => by subst e; omega)], (Keep.refl _)⟩
 ·refine Ze<|Zf rfl<|Zk<|Zs<|Zs<|Zr<|Zoa rfl rfl<|Ze<|Zb<|X.loopL (σ := Nat) (fun s => [(0, .slice A1 n1 c1), (1, .slice A2 n2 c2), (5, .int .i64 (s : Int))]) (fun s w' => s ≤ n1 ∧ l1.take s = l2.take s ∧ Keep w w') (fun s => n1 - s) 0 ⟨rfl, rfl, rfl, trivial⟩ ⟨by omega, rfl, (Keep.refl _)⟩ ?_
  rintro i b w1 ⟨hi, hI, hk⟩ hback
  have hk0 := hk.size
  have hn12 : n1 = n2 := by omega
  refine Zs<|Zs<|Zr<|Zomi rfl rfl<|Zoms rfl rfl<|Zo (X.lenSl Zu22 rfl) rfl<|X.opP X.wN rfl rfl (X.lss rfl rfl) (fun h14 => ?_) (fun h14 => ?_)
  ·obtain ⟨x1, hx1⟩ : ∃ x, L1[i]? = some x := ⟨_, List.getElem?_eq_getElem Zz⟩
   obtain ⟨q1, hq1, eq1, oq1, nq1, ht1⟩ := hLt1 _ _ hx1
   obtain ⟨x2, hx2⟩ : ∃ x, L2[i]? = some x := ⟨_, List.getElem?_eq_getElem Zz⟩
   obtain ⟨q2, hq2, eq2, oq2, nq2, ht2⟩ := hLt2 _ _ hx2
   refine Ze<|Zt rfl<|Zk<|Zs<|Zb<|Zs<|X.regionD (fun _ => False) 25 Zl Zl (fun w1 hk1 hz1 => ?_)
   refine ZDc 0 rfl Zl (Zdms rfl)<|ZDc 1 rfl Zl (Zdmi rfl)<|ZD 2 rfl Zl (fun w' hk' => X.idxS (hsL1.keep ((hk.trans hk1).trans hk')) Zu22 Zs40 rfl rfl ⟨by omega, by omega⟩)<|ZDc 3 rfl Zl (X.fldA Zu40 rfl rfl Tryz.sizeOf2)<|ZD 4 rfl Zl (fun w' hk' => X.loadSf (o := 1) Tryz.isAgg2 (hsL1.keep ((hk.trans hk1).trans hk')) hx1 rfl (fun _ h => by rw [h.1]; rfl)) ?_
   refine ZDc 5 rfl Zl (Zdms rfl)<|ZDc 6 rfl Zl (Zdmi rfl)<|ZD 7 rfl Zl (fun w' hk' => X.idxS (hsL2.keep ((hk.trans hk1).trans hk')) Zu22 Zs40 rfl rfl ⟨by omega, by omega⟩)<|ZDc 8 rfl Zl (X.fldA Zu40 rfl rfl Tryz.sizeOf2)<|ZD 9 rfl Zl (fun w' hk' => X.loadSf (o := 1) Tryz.isAgg2 (hsL2.keep ((hk.trans hk1).trans hk')) hx2 rfl (fun _ h => by rw [h.1]; rfl)) ?_
   refine ZDc 10 rfl Zl (X.neI rfl rfl)<|ZDc 11 rfl Zl (Zdmo rfl)<|X.dFork 28 rfl (fun h28 => ?_) (fun h28 => ?_)
   ·have hN := of_decide_eq_true h28
    refine X.dTakeS 12 rfl Zl Zl Zl rfl rfl rfl rfl<|X.dTakeS 13 rfl Zl Zl Zl rfl rfl rfl rfl<|X.dTakeS 14 rfl Zl Zl Zl rfl rfl rfl rfl<|X.dTakeS 15 rfl Zl Zl Zl rfl rfl rfl rfl<|X.dTakeS 16 rfl Zl Zl Zl rfl rfl rfl rfl<|X.dTakeS 17 rfl Zl Zl Zl rfl rfl rfl rfl<|ZS 18 Zl rfl rfl rfl<|ZS 19 Zl rfl rfl rfl<|ZS 20 Zl rfl rfl rfl<|ZS 21 Zl rfl rfl rfl<|ZS 22 Zl rfl rfl rfl<|ZS 23 Zl rfl rfl rfl<|ZDc 24 rfl Zl (ZdTt rfl rfl)<|Zdend Zl<|Zt rfl<|Zs<|Zr<|Zoa rfl rfl<|Ze<|X.ret1 (v := (.bool _)) Zf23 Zr23 rfl ?_
    exact ⟨by rw [decide_eq_false (fun e => by subst e; rw [hq1] at hq2; cases hq2; exact hN (eq1.trans eq2.symm))], (hk.trans hk1)⟩
   ·have hN : q1.2 = q2.2 := by rw [← eq1, ← eq2]; exact Classical.byContradiction (of_decide_eq_false h28)
    refine ZG 12 rfl rfl rfl Zl (fun w' hk' => Zdms rfl)<|ZG 13 rfl rfl rfl Zl (fun w' hk' => Zdmi rfl)<|ZG 14 rfl rfl rfl Zl (fun w' hk' => X.idxS (hsL1.keep ((hk.trans hk1).trans hk')) Zu22 Zs40 rfl rfl ⟨by omega, by omega⟩)<|ZG 15 rfl rfl rfl Zl (fun w' hk' => X.fldA Zu40 rfl rfl Zs38)<|ZG 16 rfl rfl rfl Zl (fun w' hk' => X.loadSf (o := 0) Zi38 (hsL1.keep ((hk.trans hk1).trans hk')) hx1 rfl (fun _ h => by rw [h.1]; rfl)) ?_
    refine ZG 17 rfl rfl rfl Zl (fun w' hk' => Zdms rfl)<|ZG 18 rfl rfl rfl Zl (fun w' hk' => Zdmi rfl)<|ZG 19 rfl rfl rfl Zl (fun w' hk' => X.idxS (hsL2.keep ((hk.trans hk1).trans hk')) Zu22 Zs40 rfl rfl ⟨by omega, by omega⟩)<|ZG 20 rfl rfl rfl Zl (fun w' hk' => X.fldA Zu40 rfl rfl Zs38)<|ZG 21 rfl rfl rfl Zl (fun w' hk' => X.loadSf (o := 0) Zi38 (hsL2.keep ((hk.trans hk1).trans hk')) hx2 rfl (fun _ h => by rw [h.1]; rfl)) ?_
    refine X.dE (i := 22) Zl rfl (X.dwG rfl rfl rfl) (X.callE (R02Compare_c _ (ht1.keep (hk.trans hk1)) (ht2.keep (hk.trans hk1))) Tryz.call17 rfl rfl) (by rintro _ w2 ⟨rfl, hk2⟩ _; exact hk2.mono (fun _ _ h => h.elim)) ?_
    rintro _ w2 ⟨rfl, hk2⟩
    have hk2' := hk2.size
    refine ZG 23 rfl rfl rfl Zl (fun w' hk' => X.neI rfl rfl)<|ZDc 24 rfl Zl (ZdFo rfl rfl)<|Zdend Zl<|X.condB rfl (fun hc41 => ?_) (fun hc41 => ?_)
    ·have hc := of_decide_eq_true hc41
     refine Zs<|Zr<|Zoa rfl rfl<|Ze<|X.ret1 (v := (.bool _)) Zf23 Zr23 rfl ?_
     exact ⟨by rw [decide_eq_false (fun e => by subst e; rw [hq1] at hq2; cases hq2; exact hc (cmpT_self _))], ((hk.trans hk1).trans hk2)⟩
    ·have hc : cmpT q1.1 q2.1 = 0 := Classical.byContradiction (of_decide_eq_false hc41)
     have hqq := CD_ext hc hN
     subst hqq
     refine Zk<|Zi<|Zr<|Zomi rfl rfl<|Zo (X.add rfl rfl (X.w_i64 Zz)) rfl<|Zoai rfl rfl<|Ze ?_
     refine hback (i + 1) _ _ ⟨rfl, rfl, rfl, trivial⟩ ⟨by omega, take_eq_step hI hq1 hq2, ((hk.trans hk1).trans hk2)⟩ Zz
  ·refine Ze<|Zf rfl<|Zx rfl<|Zs<|Zr<|Zoa rfl rfl<|Ze<|X.ret1 (v := (.bool _)) Zf23 Zr23 rfl ?_
   have e : l1 = l2 := by
     have h := hI
     rw [List.take_of_length_le Zz, List.take_of_length_le Zz] at h
     exact h
   exact ⟨by rw [decide_eq_true e], hk⟩
structure OnD (s : DS) (nm : ByteArray) (l : List CD) : Prop where
  sz : s.sizeOf nm = (((runB l).length : Int), 0)
  wh : s.whole nm = runB l
  rd : ∀ a n : Nat, a + n ≤ (runB l).length → s.read nm (a : Int) (n : Int) = (((runB l).drop a).take n, 0)
theorem onD_of {s : DS} {nm : ByteArray} {l : List CD} (h : (s.runW nm l).1 = 0) : OnD (s.runW nm l).2 nm l := by
  obtain ⟨_, ⟨k, h1, h2⟩, _⟩ := runW_back h
  obtain ⟨a, b, c⟩ := file_read h1 h2
  exact ⟨a, b, c⟩
structure Good (l : List CD) : Prop where
  ok : Oks l
  r : isR l = true
  n : l.length ≤ 100
theorem rOpen_run {col : Nat → Nat} {w : World} {b : Nat} {s : DS} {nm : ByteArray} {l : List CD} (hD : DkR col w b s) (hok : s.Ok) (ho : OnD s nm l) (g : Good l) (hTb : TabOk w) : Ret Tryz.prog 14 #[ptrV b, .string nm] w fun rv w' => (∃ r, rv = .tuple #[ptrV r, .int .i64 0] ∧ w.heap.size ≤ r ∧ r < w'.heap.size ∧ RunO w.heap.size w'.heap.size w' r b nm (lvs 0 (pgs l)) l.length) ∧ Keep w w' := by
  have hz := (run_sizes g.ok g.r g.n).2.2.2
  refine (rOpen_c hD hok nm (by rw [ho.sz]; simp only []; omega) hTb).mono fun rv w' ⟨h1, hk⟩ => ⟨?_, hk⟩
  rw [if_neg (by rw [ho.sz]; simp), ho.wh, idxP_back g.ok g.r g.n] at h1
  exact h1
theorem page_end {l p : List CD} {j : Nat} (hp : (pgs l)[j]? = some p) : 0 + (((pgs l).take j).flatMap pageB).length + (pageB p).length ≤ (runB l).length := by
  have h := congrArg List.length (page_at hp)
  rw [List.length_take, List.length_drop] at h
  have h2 : 0 < (pageB p).length := by rw [pageB, seal_len]; omega
  omega
theorem Page_run {lo hi r b : Nat} {col : Nat → Nat} {s : DS} {nm : ByteArray} {l p : List CD} {w : World} {j : Nat} (h : RunO lo hi w r b nm (lvs 0 (pgs l)) l.length) (hhi : hi ≤ w.heap.size) (hD : DkR col w b s) (hok : s.Ok) (ho : OnD s nm l) (g : Good l) (hTb : TabOk w) (hp : (pgs l)[j]? = some p) : Ret Tryz.prog 15 #[ptrV r, .int .i64 (j : Int)] w fun rv w' => (∃ v L m S G, rv = .tuple #[v, .int .i64 0] ∧ NRow NdCt 40 w.heap.size m S G w' v L p) ∧ Keep w w' := by
  have hz := (run_sizes g.ok g.r g.n).2.2.2
  have he := page_end hp
  have hrd := ho.rd _ _ he
  rw [page_at hp] at hrd
  have hpb := pgP_back (g.ok.sub (pgs_sub (List.mem_of_getElem? hp))) (pgs_R g.r hp) (pgs_ne (List.mem_of_getElem? hp)) (Nat.le_trans (pgs_plen (List.mem_of_getElem? hp)) g.n)
  have hb := Page_ok w h hhi hD hok hTb j (lvs_at (a := 0) hp) ⟨by omega, by simp only; omega⟩ (by rw [hrd]) (by rw [hrd]; simp only; omega)
  rw [hrd] at hb
  simp only [hpb] at hb
  exact hb
theorem runW_new {rm : Int} {nm : ByteArray} {l : List CD} (hn : rightN nm = true) (hr : isR l = true) (hl : (runB l).length ≤ 1048576) (hrm : ((secs (runB l).length : Nat) : Int) ≤ rm) : ((DS.mk0 rm [] [] []).runW nm l).1 = 0 := by
  have hne : nm ≠ ⟨#[]⟩ := by rw [rightN] at hn; exact (of_decide_eq_true hn).1
  have hc : (DS.mk0 rm [] [] []).create nm = (0, (((DS.mk0 rm [([], [])] [] []) : DS).note (⟨#[]⟩, nm, 0)).did) := by
    rw [DS.create, if_neg (show ¬ (DS.mk0 rm [] [] []).down = true from Bool.false_ne_true), if_neg (by rw [hn]; decide), if_neg (show ¬ (asc nm (DS.mk0 rm [] [] []).dir).isSome = true from Bool.false_ne_true), if_neg (show ¬ 256 ≤ (DS.mk0 rm [] [] []).dir.length from (by decide : ¬ 256 ≤ 0))]; rfl
  have hd : ((DS.mk0 rm [] [] []).create nm).2.dir = [(nm, 0)] := by
    rw [hc]
    show trn (⟨#[]⟩, nm, 0) [] = _
    rw [trn_eq, if_neg hne, if_pos rfl]; rfl
  have ha : asc nm ((DS.mk0 rm [] [] []).create nm).2.dir = some 0 := by rw [hd]; simp [asc]
  have hf : ((DS.mk0 rm [] [] []).create nm).2.fs = [([], [])] := by rw [hc]; rfl
  have hu : ((DS.mk0 rm [] [] []).create nm).2.used = 0 := by
    rw [DS.used, costs, hd, hf]
    show (cost (flen [([], [])]) [(nm, 0)] nm) + 0 = 0
    rw [cost]; simp [asc, flen]
  have hw : (((DS.mk0 rm [] [] []).create nm).2.write nm 0 (runB l)).1 = 0 := by
    rw [DS.write, if_neg (by rw [hc]; exact Bool.false_ne_true), ha]
    simp only
    rw [hf, if_neg (by show ¬ ((0 : Int) < 0 ∨ ((0 : Nat) : Int) < 0); decide), if_neg Zz, if_neg]
    rw [hu, show ((DS.mk0 rm [] [] []).create nm).2.rm = rm by rw [hc]; rfl]
    show ¬ rm < ((0 : Nat) : Int) + ((secs (max 0 (0 + (runB l).length)) : Nat) : Int) - ((secs 0 : Nat) : Int)
    rw [Nat.zero_add, Nat.zero_max]
    have : secs 0 = 0 := rfl
    omega
  have hdn : (((DS.mk0 rm [] [] []).create nm).2.write nm 0 (runB l)).2.down = false := by
    rw [write_ok hw ha, hc]; rfl
  have hd2 : asc nm (((DS.mk0 rm [] [] []).create nm).2.write nm 0 (runB l)).2.dir = some 0 := by rw [write_ok hw ha]; exact ha
  rw [DS.runW, if_neg (by rw [hr]; decide), if_neg (by rw [hc]; exact fun h => h rfl), if_neg (fun h => h hw), DS.sync, hdn, hd2]
  rfl
def tF : List VAL := [(1, 5, ⟨#[]⟩)]
def qF : CD := (tF, 1)
def lF : List CD := [qF]
def nmR : ByteArray := ⟨#[114]⟩
theorem okF : Oks lF := by
  intro q hq
  rw [lF, List.mem_singleton] at hq
  subst hq
  refine ⟨⟨by decide, by decide⟩, fun v hv => ?_⟩
  rw [qF, tF, List.mem_singleton] at hv
  subst hv
  exact ⟨⟨by decide, by decide⟩, ⟨by decide, by decide⟩, by decide⟩
theorem rF : isR lF = true := by decide
theorem goodF : Good lF := ⟨okF, rF, by decide⟩
theorem pgsF1 : pgs lF = [lF] := by rw [pgs, lF, pgsF, if_neg (fun h => h.1 rfl), List.nil_append, pgsF, if_neg (by simp)]
theorem szF : (runB lF).length ≤ 6400 := by
  have h1 : (pageB lF).length ≤ 14 + lF.length * 2200 := pageB_le okF (by decide)
  have h5 : (keyB (headT lF)).length = 9 := by rfl
  have h6 := numB_le (k := (pageB lF).length) (by rw [show lF.length = 1 from rfl] at h1; omega)
  have h7 := numB_le (k := 9) (by decide)
  have h2 : (leafB lF).length ≤ 29 := by rw [leafB, textB, List.length_append, List.length_append, h5]; omega
  rw [show lF.length = 1 from rfl] at h1
  have h3 := numB_le (k := 1) (by decide)
  have h4 : lF.length = 1 := rfl
  rw [runB, pgsF1, idxB, tailB, List.length_append, List.length_append, seal_len, seal_len, low4_len]
  simp only [List.flatMap_cons, List.flatMap_nil, List.append_nil, List.length_append, List.length_cons, List.length_nil, h4]
  simp only [Nat.zero_add]
  omega
theorem wF : ((DS.mk0 100 [] [] []).runW nmR lF).1 = 0 := runW_new (by decide) rF (by have := szF; omega) (by have := szF; rw [secs]; omega)
theorem fndF : fndN (lvs 0 (pgs lF)) tF = 1 := by
  rw [pgsF1, lvs, lvs, fndN, List.takeWhile_cons]
  have : cmpT (headT lF) tF = 0 := cmpT_self _
  simp [this]
theorem one_kc {lo hi lo' hi' lo0 hi0 : Nat} {w : World} {A A' : Option Addr} {n' c' : Nat} {N : Int} {t : List VAL} (hs : Sl KCt lo hi w A 1 [((A', n', c'), N)]) (ht : Sl KV lo' hi' w A' n' t) (hnc : n' ≤ c') (hN : okI N) (h1 : lo0 ≤ lo) (h2 : hi ≤ hi0) (h3 : lo0 ≤ lo') (h4 : hi' ≤ hi0) : Sl KC lo0 hi0 w A 1 [(t, N)] :=
  hd_kc (hs.wide h1 h2) ⟨rfl, fun i x hx => by
    cases i with
    | zero => cases hx; exact ⟨_, rfl, rfl, hN, hnc, ht.wide h3 h4⟩
    | succ i => simp at hx⟩
theorem five_c (w : World) : Ret Tryz.prog 36 #[] w fun v w' => ∃ A c, v = .agg #[.slice A 1 c, .int .i64 1] ∧ 1 ≤ c ∧ Sl KV w.heap.size w'.heap.size w' A 1 tF ∧ Keep w w' := by
 refine X.enter Tryz.func36 rfl Tryz.ntmps36 rfl<|Zs<|Zr<|Zc (X.allocE Zv40 rfl) rfl ?_
 rintro _ w1 ⟨rfl, hB1, hk1, hz1⟩
 refine Ze<|Zs<|Zr<|Zo (X.buildB (vs := [(0, .int .i64 1), (1, .int .i64 5)]) (cs := #[.int .i64 1, .int .i64 5, .string ⟨#[]⟩]) rfl Zl) rfl<|Zc (X.litKF KV_flat (K := KV) (xs := [Operand.tmp 1]) (vs := [.agg (encV (1, 5, ⟨#[]⟩)).toArray]) (ys := [((1, 5, ⟨#[]⟩) : VAL)]) Zu38 Zs90 Zv90 rfl rfl rfl rfl rfl (litV_ok ⟨⟨by decide, by decide⟩, ⟨by decide, by decide⟩, by decide⟩)) rfl ?_
 rintro _ w2 ⟨rfl, hs2, hB2, hk2, hz2⟩
 refine Zo (X.buildB (vs := [(0, .slice (some ⟨w1.heap.size, 0, none⟩) 1 1), (1, .int .i64 1)]) (cs := #[.slice (some ⟨w1.heap.size, 0, none⟩) 1 1, .int .i64 1]) rfl Zl) rfl<|Zc (X.storeNE Zs40 (hB1.keep hk2) rfl rfl rfl rfl (fun u hu => by simp at hu; rcases hu with rfl | rfl <;> rfl)) rfl ?_
 rintro _ w3 ⟨hB3, hx3, hz3⟩
 refine Ze ?_
 refine X.ret_unw (X.unwR1 Tryz.func36 Tryz.results36 (X.ResOk.cell rfl (X.lvN Zi40 Zs40 hB3 rfl)) ?_)
 have hM : Mine KV 90 (fun q => w.heap.size ≤ q ∧ q ≠ w.heap.size) 0 0 _ (.slice (some ⟨w1.heap.size, 0, none⟩) 1 1) [((1, 5, ⟨#[]⟩) : VAL)] := ((Mine.litV (vs := [.agg (encV (1, 5, ⟨#[]⟩)).toArray]) (w0 := w1) (n := 1) KV_flat hB2 (litV_ok ⟨⟨by decide, by decide⟩, ⟨by decide, by decide⟩, by decide⟩) rfl Zz (by first | (refine ⟨?_, ?_⟩ <;> omega) | (intro q g1; first | exact (g1 : False).elim | (have g1 : q = _ := g1; omega) | (have g1 : _ ≤ q ∧ _ := g1; omega)))).ext hx3 (by first | (intro q g1 g2 g3; first | exact (g3 : False).elim | omega | (have g3 : _ ∨ _ := g3; omega) | (have g3 : q = _ := g3; omega) | (have g3 : _ ≤ q ∧ _ := g3; omega) | (have g3 : _ ≤ q := g3; omega)) | (intro hh; first | exact (hh : False).elim | (have hh : _ ∨ _ := hh; omega) | (have hh : _ = _ := hh; omega) | (have hh : _ ≤ _ ∧ _ := hh; omega) | (have hh : _ ≤ _ := hh; omega)) | (intro q g1; first | exact (g1 : False).elim | (have g1 : _ ∨ _ := g1; omega) | (have g1 : q = _ := g1; omega) | (have g1 : _ ≤ q ∧ _ := g1; omega) | (have g1 : _ ≤ q := g1; omega)) | (intro q g1 g2; first | exact (g2 : False).elim | (have g2 : _ ∨ _ := g2; omega) | (have g2 : q = _ := g2; omega) | (have g2 : _ ≤ q ∧ _ := g2; omega) | (have g2 : _ ≤ q := g2; omega))) (by first | (intro q g1 g2 g3; first | exact (g3 : False).elim | omega | (have g3 : _ ∨ _ := g3; omega) | (have g3 : q = _ := g3; omega) | (have g3 : _ ≤ q ∧ _ := g3; omega) | (have g3 : _ ≤ q := g3; omega)) | (intro hh; first | exact (hh : False).elim | (have hh : _ ∨ _ := hh; omega) | (have hh : _ = _ := hh; omega) | (have hh : _ ≤ _ ∧ _ := hh; omega) | (have hh : _ ≤ _ := hh; omega)) | (intro q g1; first | exact (g1 : False).elim | (have g1 : _ ∨ _ := g1; omega) | (have g1 : q = _ := g1; omega) | (have g1 : _ ≤ q ∧ _ := g1; omega) | (have g1 : _ ≤ q := g1; omega)) | (intro q g1 g2; first | exact (g2 : False).elim | (have g2 : _ ∨ _ := g2; omega) | (have g2 : q = _ := g2; omega) | (have g2 : _ ≤ q ∧ _ := g2; omega) | (have g2 : _ ≤ q := g2; omega))))
 obtain ⟨A, c, e, hc, hs⟩ := hM.slF KV_flat w.heap.size (fun q hq => by have hq : _ ≤ q ∧ _ := hq; omega)
 injection e with e1 e2 e3
 subst e1 e3
 exact ⟨_, _, rfl, Nat.le_refl _, hs, ((hk1.trans hk2).step hx3 (by first | (refine ⟨?_, ?_⟩ <;> omega) | (intro q g1; first | exact (g1 : False).elim | (have g1 : q = _ := g1; omega) | (have g1 : _ ≤ q ∧ _ := g1; omega))))⟩
theorem Bytes_good {lo hi : Nat} {A : Option Addr} {n c : Nat} {l : List CD} (w : World) (hs : Sl KC lo hi w A n l) (hhi : hi ≤ w.heap.size) (hnc : n ≤ c) (g : Good l) (hTb : TabOk w) : Ret Tryz.prog 18 #[.slice A n c] w fun r w' => ∃ v, r = .tuple #[v, .int .i64 0] ∧ FreshB w w' v (runB l) := by
  have h := Bytes_c w hs hhi hnc (by rw [← hs.len]; exact g.n) g.ok hTb
  rw [g.r] at h
  exact h
theorem rWrite_good {col : Nat → Nat} {b : Nat} {s : DS} (nm : ByteArray) {lo hi : Nat} {A : Option Addr} {n c : Nat} {l : List CD} (w : World) (hs : Sl KC lo hi w A n l) (hhi : hi ≤ w.heap.size) (h : DkR col w b s) (hi : s.Inv) (hnm : nm.size ≤ 9223372036854775807) (hsz : s.size ≤ 100000) (hnc : n ≤ c) (g : Good l) (hTb : TabOk w) (h0 : (s.runW nm l).1 = 0) : Ret Tryz.prog 13 #[ptrV b, .string nm, .slice A n c] w fun r w' => r = .int .i64 0 ∧ ∃ col', DkR col' w' b (s.runW nm l).2 ∧ Stp col w col' w' := by
  have := rWrite_c nm w hs hhi h hi hnm hsz hnc (by rw [← hs.len]; exact g.n) g.ok hTb
  rwa [h0] at this
theorem runB_pos (l : List CD) : 0 < (runB l).length := by rw [runB, List.length_append, tailB, seal_len]; omega
theorem ralive_c (w : World) (hTb : TabOk w) : Ret Tryz.prog 11 #[] w fun r w' => r = .bool true ∧ Keep w w' := by
 have htl := hTb.lt
 refine X.enter Tryz.func11 rfl Tryz.ntmps11 rfl<|Zs<|Zr<|Zoa rfl rfl<|Ze<|Zs<|Zr<|Zc (X.callE (New_ok 100 _ (by decide)) Tryz.call12 rfl rfl) rfl ?_
 rintro _ w1 ⟨bd, bf, bdd, bx, bl, c0, rfl, hDk, hDc, hk1⟩
 have hD0 := hDk.r
 have hzn := hk1.size
 have htab : c0 0 = 0 := Classical.byContradiction fun e => by have := hDc _ e; omega
 refine Zom rfl rfl<|Zo (X.extr rfl rfl) rfl<|Zo (X.extr rfl rfl) rfl<|Zoa rfl rfl<|Zoai rfl rfl<|Ze<|Zs<|Zs<|Zr<|Zomi rfl rfl<|Zo (X.neI rfl rfl) rfl<|Zomf rfl rfl<|Zg (X.move rfl) rfl rfl rfl rfl<|Zg (X.eqPtrN (A := some _) Zu26 rfl rfl) rfl rfl rfl rfl<|Zo (ZdFf rfl rfl) rfl<|Ze<|Zf rfl<|Zk<|Zs<|Zr<|Zc (X.callE (five_c _) Zc36 rfl rfl) rfl ?_
 rintro _ w2 ⟨Af1, cf1, rfl, hcf1, hsf1, hk2⟩
 have hk2' := hk2.size
 refine Zc (X.litKF KCt_flat (K := KCt) (xs := [Operand.tmp 23]) (vs := [evC ((Af1, 1, cf1), 1)]) (ys := [((Af1, 1, cf1), 1)]) Zu22 Zs40 Zv40 rfl rfl rfl rfl rfl (repsC _)) rfl ?_
 rintro _ w3 ⟨rfl, hs3, hB3, hk3, hz3⟩
 refine Zc (X.callE (Bytes_good _ (sl_cast (one_kc (lo0 := 0) (hi0 := w3.heap.size) hs3 (hsf1.keep hk3) hcf1 ⟨by decide, by decide⟩ (Nat.zero_le _) Zz (Nat.zero_le _) Zz) (show [(tF, 1)] = lF from rfl)) (Nat.le_refl _) (Nat.le_refl _) goodF (hTb.keep ((hk1.trans hk2).trans hk3))) Zc18 rfl rfl) rfl ?_
 rintro _ w4 ⟨vB, rfl, hMB, hk4⟩
 have hk4' := hk4.size
 refine Zom rfl rfl<|Zo (X.extr rfl rfl) rfl<|Zo (X.extr rfl rfl) rfl<|Zoa rfl rfl<|Zoai rfl rfl<|Ze<|Zs<|Zr<|Zom rfl rfl<|Zc (X.callE (five_c _) Zc36 rfl rfl) rfl ?_
 rintro _ w5 ⟨Af2, cf2, rfl, hcf2, hsf2, hk5⟩
 have hk5' := hk5.size
 refine Zc (X.litKF KCt_flat (K := KCt) (xs := [Operand.tmp 29]) (vs := [evC ((Af2, 1, cf2), 1)]) (ys := [((Af2, 1, cf2), 1)]) Zu22 Zs40 Zv40 rfl rfl rfl rfl rfl (repsC _)) rfl ?_
 rintro _ w6 ⟨rfl, hs6, hB6, hk6, hz6⟩
 refine Zc (X.callE (rWrite_good nmR _ (sl_cast (one_kc (lo0 := 0) (hi0 := w6.heap.size) hs6 (hsf2.keep hk6) hcf2 ⟨by decide, by decide⟩ (Nat.zero_le _) Zz (Nat.zero_le _) Zz) (show [(tF, 1)] = lF from rfl)) (Nat.le_refl _) (((((hD0.keep hk2).keep hk3).keep hk4).keep hk5).keep hk6) (Inv_new (by decide)) (by decide) (by decide) (Nat.le_refl _) goodF (hTb.keep (((((hk1.trans hk2).trans hk3).trans hk4).trans hk5).trans hk6)) wF) Tryz.call13 rfl rfl) rfl ?_
 rintro _ w7 ⟨rfl, c1, hD1, hS1⟩
 have hx7 := hS1.2
 have hx7' := hx7.size
 refine Zoai rfl rfl<|Ze<|Zs<|Zr<|Zom rfl rfl<|Zc (X.callE (rOpen_run hD1 ((Inv_new (by decide)).runW nmR lF).ok (onD_of wF) goodF ((hTb.keep (((((hk1.trans hk2).trans hk3).trans hk4).trans hk5).trans hk6)).ext hx7 zq4)) Tryz.call14 rfl rfl) rfl ?_
 rintro _ w8 ⟨⟨r, rfl, hr1, hr2, hRO⟩, hk8⟩
 have hk8' := hk8.size
 refine Zom rfl rfl<|Zo (X.extr rfl rfl) rfl<|Zo (X.extr rfl rfl) rfl<|Zoa rfl rfl<|Zoai rfl rfl<|Ze<|Zs<|Zs<|Zr<|Zomi rfl rfl<|Zo (X.neI rfl rfl) rfl<|Zomf rfl rfl<|Zg (Zdmi rfl) rfl rfl rfl rfl<|Zg (X.neI rfl rfl) rfl rfl rfl rfl<|Zo (ZdFf rfl rfl) rfl<|Zomf rfl rfl<|Zg (Zdmi rfl) rfl rfl rfl rfl<|Zg (X.neI rfl rfl) rfl rfl rfl rfl<|Zo (ZdFf rfl rfl) rfl<|Zomf rfl rfl<|Zg (X.move rfl) rfl rfl rfl rfl<|Zg (X.eqPtrN (A := some _) Zu31 rfl rfl) rfl rfl rfl rfl<|Zo (ZdFf rfl rfl) rfl<|Zomf rfl rfl<|Zg (X.move rfl) rfl rfl rfl rfl ?_
 have q9 := (((hMB.keep (hk5.trans hk6)).ext hx7 zq4 zq4).keep hk8).slF KB_flat 0 (fun _ _ => Nat.zero_le _)
 obtain ⟨A9, c9, rfl, hc9, hs9⟩ := q9
 refine Zg (X.lenSl Zu43 rfl) rfl rfl rfl rfl<|X.opP (X.wG rfl rfl rfl) rfl rfl (X.eqI rfl rfl) (fun h54 => ?_) (fun h54 => ?_)
 ·have := runB_pos lF; omega
 ·refine Zo (ZdFf rfl rfl) rfl<|Ze<|Zf rfl<|Zk<|Zs<|Zr<|Zom rfl rfl<|Zc (X.callE (Len_c _ hRO) Tryz.call25 rfl rfl) rfl ?_
  rintro _ w10 ⟨rfl, hk10⟩
  have hk10' := hk10.size
  refine Zom rfl rfl<|Zo (X.extr rfl rfl) rfl<|Zo (X.extr rfl rfl) rfl<|Zoai rfl rfl<|Zoai rfl rfl<|Ze<|Zs<|Zr<|Zom rfl rfl<|Zc (X.callE (Page_run (j := 0) (p := lF) (hRO.keep hk10) Zz ((hD1.keep hk8).keep hk10) ((Inv_new (by decide)).runW nmR lF).ok (onD_of wF) goodF (((hTb.keep (((((hk1.trans hk2).trans hk3).trans hk4).trans hk5).trans hk6)).ext hx7 zq4).keep (hk8.trans hk10)) (by rw [pgsF1]; rfl)) Tryz.call15 rfl rfl) rfl ?_
  rintro _ w11 ⟨⟨vp, Lp, mp, Sp, Gp, rfl, hNp⟩, hk11⟩
  obtain ⟨Ap, cp, rfl, hcp, hsp⟩ := nrow_kc hNp
  have hk11' := hk11.size
  refine Zom rfl rfl<|Zo (X.extr rfl rfl) rfl<|Zo (X.extr rfl rfl) rfl<|Zoas rfl rfl<|Zoai rfl rfl<|Ze<|Zs<|Zr<|Zomi rfl rfl<|X.opP X.wN rfl rfl (X.eqI rfl rfl) (fun h67 => ?_) (fun h67 => ?_)
  ·refine Zomt rfl rfl<|Zg (Zdmi rfl) rfl rfl rfl rfl<|X.opP (X.wG rfl rfl rfl) rfl rfl (X.eqI rfl rfl) (fun h70 => ?_) (fun h70 => ?_)
   ·refine Zo (ZdTt rfl rfl) rfl<|Zomt rfl rfl<|Zg (Zdmi rfl) rfl rfl rfl rfl<|X.opP (X.wG rfl rfl rfl) rfl rfl (X.eqI rfl rfl) (fun h74 => ?_) (fun h74 => ?_)
    ·refine Zo (ZdTt rfl rfl) rfl<|Zomt rfl rfl<|Zg (Zdms rfl) rfl rfl rfl rfl<|X.opE (X.wG rfl rfl rfl) rfl (X.callE (five_c _) Zc36 rfl rfl) ?_
     rintro _ w12 ⟨Af3, cf3, rfl, hcf3, hsf3, hk12⟩
     have hk12' := hk12.size
     refine X.opE (X.wG rfl rfl rfl) rfl (X.litKF KCt_flat (K := KCt) (xs := [Operand.tmp 78]) (vs := [evC ((Af3, 1, cf3), 1)]) (ys := [((Af3, 1, cf3), 1)]) Zu22 Zs40 Zv40 rfl rfl rfl rfl rfl (repsC _)) ?_
     rintro _ w13 ⟨rfl, hs13, hB13, hk13, hz13⟩
     refine X.opE (X.wG rfl rfl rfl) rfl (X.callE (RSame_c _ (hsp.keep (hk12.trans hk13)) (sl_cast (one_kc (lo0 := 0) (hi0 := w13.heap.size) hs13 (hsf3.keep hk13) hcf3 ⟨by decide, by decide⟩ (Nat.zero_le _) Zz (Nat.zero_le _) Zz) (show [(tF, 1)] = lF from rfl))) Tryz.call23 rfl rfl) ?_
     rintro _ w14 ⟨rfl, hk14⟩
     have hk14' := hk14.size
     refine Zo (ZdTo rfl rfl) rfl<|Zomo rfl rfl<|X.forkO 82 rfl (fun h82 => ?_) (fun h82 => ?_)
     ·refine Zg (X.move rfl) rfl rfl rfl rfl<|X.opE (X.wG rfl rfl rfl) rfl (X.callE (five_c _) Zc36 rfl rfl) ?_
      rintro _ w15 ⟨Af4, cf4, rfl, hcf4, hsf4, hk15⟩
      have hk15' := hk15.size
      refine Zg (X.fld1 Zu40 rfl rfl Zi38 rfl) rfl rfl rfl rfl<|X.opE (X.wG rfl rfl rfl) rfl (X.callE (RuFind_c _ ((((((hRO.keep hk10).keep hk11).keep hk12).keep hk13).keep hk14).keep hk15) (by rw [lvs_len, pgsF1]; decide) (asc_lvs rF) hsf4) Tryz.call16 rfl rfl) ?_
      rintro _ w16 ⟨rfl, hk16⟩
      have hk16' := hk16.size
      refine Zg (X.eqI rfl rfl) rfl rfl rfl rfl<|Zo (ZdTo rfl rfl) rfl<|Zoao rfl rfl<|Ze<|X.ret1 (v := (.bool _)) Tryz.func11 Tryz.results11 rfl ?_
      exact ⟨by first | rfl | exact congrArg Value.bool (decide_eq_true (by rw [fndF]; rfl)), ((((((((((((((hk1.trans hk2).trans hk3).trans hk4).trans hk5).trans hk6).step hx7 (by intro q g1; exact Classical.byContradiction fun e => g1 (Classical.byContradiction fun e2 => by have := hDc q e2; omega))).trans hk8).trans hk10).trans hk11).trans hk12).trans hk13).trans hk14).trans hk15).trans hk16)⟩
     ·exact absurd (h82 ▸ decide_eq_true (rfl : lF = lF)) Bool.false_ne_true
    ·exact absurd rfl h74
   ·exact absurd (by rw [lvs_len, pgsF1]; rfl) h70
  ·exact absurd rfl h67
def fewV (v : VAL) : VAL := if 300 < v.2.2.size then (v.1, v.2.1, v.2.2.extract 0 300) else v
def fewT (t : List VAL) : List VAL := (t.take 9).map fewV
def fewC (q : CD) : CD := (fewT q.1, q.2)
def fewL (l : List CD) : List CD := (l.take 60).map fewC
theorem fewV_ok {v : VAL} (h : okV v) : okV (fewV v) := by
  unfold fewV
  split
  · exact ⟨h.1, h.2.1, by rw [ByteArray.size_extract]; have := h.2.2; omega⟩
  · exact h
theorem few_step {α β : Type} {l : List α} {i : Nat} {x : α} (f : α → β) (hx : l[i]? = some x) : (l.take (i + 1)).map f = (l.take i).map f ++ [f x] := by
  rw [List.take_add_one, hx]; simp
theorem few_take {l : List VAL} {n : Nat} (h : l.length = n) : (l.take (min n 9)).map fewV = fewT l := by
  rw [fewT]
  rcases Nat.lt_or_ge n 9 with h9 | h9
  · rw [Nat.min_eq_left Zz, List.take_of_length_le Zz, List.take_of_length_le Zz]
  · rw [Nat.min_eq_right h9]
theorem okV_get {lo hi : Nat} {w : World} {A : Option Addr} {n i : Nat} {l : List VAL} {v : VAL} (h : Sl KV lo hi w A n l) (hv : l[i]? = some v) : okV v := KV_ok h i v hv
theorem few_c {lo hi : Nat} {A : Option Addr} {n c : Nat} {l : List CD} (w : World) (hs : Sl KC lo hi w A n l) (hhi : hi ≤ w.heap.size) (hnc : n ≤ c) : Ret Tryz.prog 9 #[.slice A n c] w fun r w' => ∃ v L m S G, r = v ∧ NRow NdCt 40 w.heap.size m S G w' v L (fewL l) ∧ Keep w w' := by
 obtain ⟨L, hsL, hLl, hLt⟩ := kc_hd hs
 have hsl := hs.len
 have hsb := hs.bound
 refine X.enter Zf9 rfl Tryz.ntmps9 rfl<|Zs<|Zr<|Zoa rfl rfl<|Ze<|Zs<|Zr<|Zoa rfl rfl<|Ze<|Zs<|Zs<|Zr<|Zoa rfl rfl<|Ze<|Zb<|X.loopL (σ := Nat × Value) (fun s => [(0, .slice A n c), (3, s.2), (4, .int .i64 (s.1 : Int))]) (fun s w' => s.1 ≤ n ∧ s.1 ≤ 60 ∧ Keep w w' ∧ ∃ L' m S G, NRow NdCt 40 w.heap.size m S G w' s.2 L' ((l.take s.1).map fewC)) (fun s => n - s.1) (0, .slice none 0 0) ⟨rfl, rfl, rfl, trivial⟩ ⟨Nat.zero_le _, Nat.zero_le _, (Keep.refl _), [], _, _, _, NRow.nil _ _ _ _ (Nat.le_refl _)⟩ ?_
 rintro ⟨i, v⟩ b wo ⟨hi1, hi2, hk, L', mr, SS, GG, hNR⟩ hbo
 dsimp only
 dsimp only at hi1 hi2 hNR
 have hk0 := hk.size
 have hl1 := hNR.l1
 have hbb := hNR.b
 refine Zs<|Zs<|Zr<|Zomi rfl rfl<|Zom rfl rfl<|Zo (X.lenSl Zu22 rfl) rfl<|X.opP X.wN rfl rfl (X.lss rfl rfl) (fun h12 => ?_) (fun h12 => ?_)
 ·obtain ⟨x, hx⟩ : ∃ x, L[i]? = some x := ⟨_, List.getElem?_eq_getElem Zz⟩
  obtain ⟨q, hq, eq, oq, nq, ht⟩ := hLt _ _ hx
  have htl := ht.len
  have htb := ht.bound
  refine Zomt rfl rfl<|Zg (Zdmi rfl) rfl rfl rfl rfl<|X.opP (X.wG rfl rfl rfl) rfl rfl (X.lss rfl rfl) (fun h15 => ?_) (fun h15 => ?_)
  ·refine Zo (ZdTt rfl rfl) rfl<|Ze<|Zt rfl<|Zk<|Zs<|Zb<|Zs<|Zr<|Zom rfl rfl<|Zomi rfl rfl<|Zo (X.idxS (hsL.keep hk) Zu22 Zs40 rfl rfl ⟨by omega, by omega⟩) rfl<|Zo (X.loadSN Zi40 Zs40 (hsL.keep hk) hx rfl (fun _ h => h.1) rfl) rfl<|Zc (X.allocE Zv40 rfl) rfl ?_
   rintro _ w1 ⟨rfl, hB1, hk1, hz1⟩
   refine Zc (X.storeNE Zs40 hB1 rfl rfl rfl rfl (fun u hu => by simp at hu; rcases hu with rfl | rfl <;> rfl)) rfl ?_
   rintro _ w2 ⟨hB2, hx2, hz2⟩
   refine Ze<|Zs ?_
   have hkJ := (((Keep.refl _).trans hk1).step hx2 zq24)
   refine X.joinW (σ := Nat) (fun s => [(0, .slice A n c), (3, v), (4, .int .i64 (i : Int)), (5, .pointer (some ⟨wo.heap.size, 0, none⟩))]) (fun s w' => s = min x.1.2.1 9 ∧ Blk w' wo.heap.size [.slice x.1.1 s x.1.2.2, .int .i64 x.2] 40 ∧ Ext (fun q => q = wo.heap.size) w2 w') (fun hjoin => ?_) ?_
   ·refine Zs<|Zr<|Zo (X.fldB (j := 0) Zu40 rfl rfl Zs38 rfl) rfl<|Zo (X.load1B Zi38 hB2 rfl rfl) rfl<|Zo (X.lenSl Zu38 rfl) rfl<|X.opP X.wN rfl rfl (X.gtr rfl rfl) (fun h26 => ?_) (fun h26 => ?_)
    ·refine Ze<|Zt rfl<|Zr<|Zo (X.fldB (j := 0) Zu40 rfl rfl Zs38 rfl) rfl<|Zo (X.load1B Zi38 hB2 rfl rfl) rfl<|Zo (X.cutHr Zu38 Zs90 rfl rfl Zz) rfl<|Zo (X.fldB (j := 0) Zu40 rfl rfl Zs38 rfl) rfl<|Zc (X.storeE Zs38 hB2 rfl rfl rfl rfl) rfl ?_
     rintro _ w3 ⟨hB3, hx3, hz3⟩
     refine Ze ?_
     refine hjoin 9 _ _ ⟨rfl, rfl, rfl, rfl, trivial⟩ ⟨by omega, hB3, (hx3.mono (fun k _ hk => by have hk : k = _ := hk; exact hk))⟩
    ·refine Ze<|Zf rfl<|Zk ?_
     refine hjoin x.1.2.1 _ _ ⟨rfl, rfl, rfl, rfl, trivial⟩ ⟨by omega, hB2, Ext.refl _ _⟩
   rintro nn bj wj ⟨hnn, hB5, hj⟩
   have hj' := hj.size
   refine Zs<|Zr<|Zc (X.lit0E (K := KV) (S := fun k => wj.heap.size ≤ k) Zu38 Zs90 (Nat.le_refl _)) rfl ?_
   rintro v4 w4 ⟨hM4, hk4, hz4⟩
   refine Zoa rfl rfl<|Ze<|Zs<|Zs<|Zr<|Zoa rfl rfl<|Ze<|Zb ?_
   have hkI := (hkJ.step hj (by intro q g1; have g1 : q = _ := g1; omega))
   have htI := ((ht.keep hk).keep hkI).take nn Zz
   refine X.loopL (σ := Nat × Value) (fun s => [(0, .slice A n c), (3, v), (4, .int .i64 (i : Int)), (5, .pointer (some ⟨wo.heap.size, 0, none⟩)), (6, s.2), (7, .int .i64 (s.1 : Int))]) (fun s w' => s.1 ≤ nn ∧ Mine KV 90 (fun k => wj.heap.size ≤ k) 0 0 w' s.2 ((q.1.take s.1).map fewV) ∧ Keep wj w') (fun s => nn - s.1) (0, v4) ⟨rfl, rfl, rfl, rfl, rfl, rfl, trivial⟩ ⟨Nat.zero_le _, hM4, hk4⟩ ?_
   rintro ⟨j, vt⟩ b2 wl ⟨hjn, hMt, hkL⟩ hbi
   dsimp only
   dsimp only at hjn hMt
   have hkL0 := hkL.size
   refine Zs<|Zs<|Zr<|Zomi rfl rfl<|Zo (X.fldB (j := 0) Zu40 rfl rfl Zs38 rfl) rfl<|Zo (X.load1B Zi38 (hB5.keep hkL) rfl rfl) rfl<|Zo (X.lenSl Zu38 rfl) rfl<|X.opP X.wN rfl rfl (X.lss rfl rfl) (fun h36 => ?_) (fun h36 => ?_)
   ·obtain ⟨vv, hvv⟩ : ∃ vv, (q.1.take nn)[j]? = some vv := ⟨_, List.getElem?_eq_getElem (by rw [List.length_take]; omega)⟩
    have hov := okV_get htI hvv
    have hvq : q.1[j]? = some vv := by rw [List.getElem?_take, if_pos Zz] at hvv; exact hvv
    have hfo := fewV_ok hov
    have hst := few_step fewV hvq
    refine Ze<|Zt rfl<|Zk<|Zs<|Zb<|Zs<|Zr<|Zo (X.fldB (j := 0) Zu40 rfl rfl Zs38 rfl) rfl<|Zo (X.load1B Zi38 (hB5.keep hkL) rfl rfl) rfl<|Zomi rfl rfl<|Zo (X.idxS (htI.keep hkL) Zu38 Zs90 rfl rfl ⟨by omega, by omega⟩) rfl<|Zo (X.loadSN Zi90 Zs90 (htI.keep hkL) hvv rfl (fun _ h => h.1) rfl) rfl<|Zc (X.allocE Zv90 rfl) rfl ?_
    rintro _ w5 ⟨rfl, hB5, hk5, hz5⟩
    refine Zc (X.storeNE Zs90 hB5 rfl rfl rfl rfl (encV_one _)) rfl ?_
    rintro _ w6 ⟨hB6, hx6, hz6⟩
    refine Ze<|Zs<|Zs<|Zr<|Zo (X.fldB (j := 2) Zu90 rfl rfl Zs9 rfl) rfl<|Zo (X.load1B Zi9 hB6 rfl rfl) rfl<|Zo (X.lenS Zu9 rfl) rfl<|X.opP X.wN rfl rfl (X.gtr rfl rfl) (fun h47 => ?_) (fun h47 => ?_)
    ·have hfv : fewV vv = (vv.1, vv.2.1, vv.2.2.extract 0 300) := by rw [fewV, if_pos Zz]
     rw [hfv] at hfo hst
     refine Ze<|Zt rfl<|Zr<|Zo (X.fldB (j := 2) Zu90 rfl rfl Zs9 rfl) rfl<|Zo (X.load1B Zi9 hB6 rfl rfl) rfl<|Zo (X.cutSH Zu9 rfl rfl ⟨by omega, by omega⟩) rfl<|Zo (X.fldB (j := 2) Zu90 rfl rfl Zs9 rfl) rfl<|Zc (X.storeE Zs9 hB6 rfl rfl rfl rfl) rfl ?_
     rintro _ w7 ⟨hB7, hx7, hz7⟩
     refine Ze<|Zr<|Zom rfl rfl<|Zo (X.loadNB Zi90 Zs90 hB7 rfl rfl rfl) rfl<|Zc (X.litKF KV_flat (K := KV) (xs := [Operand.tmp 53]) (vs := [.agg (encV (vv.1, vv.2.1, vv.2.2.extract 0 300)).toArray]) (ys := [(vv.1, vv.2.1, vv.2.2.extract 0 300)]) Zu38 Zs90 Zv90 rfl rfl rfl rfl rfl (litV_ok hfo)) rfl ?_
     rintro _ w8 ⟨rfl, hs8, hB8, hk8, hz8⟩
     refine Zc (X.appE (K := KV) (S := fun k => wj.heap.size ≤ k) KV_flat Zu38 EVal rfl rfl (hMt.keep (((hk5.step hx6 zq29).step hx7 zq29).trans hk8)) hs8 zq9 zq29) rfl ?_
     rintro v9 w9 ⟨hM9, hx9⟩
     have hx9' := hx9.size
     refine Zoa rfl rfl<|Ze<|Zi<|Zr<|Zomi rfl rfl<|Zo (X.add rfl rfl (X.w_i64 Zz)) rfl<|Zoai rfl rfl<|Ze ?_
     refine hbi (j + 1, v9) _ _ ⟨rfl, rfl, rfl, rfl, rfl, rfl, trivial⟩ ⟨by omega, by rw [hst]; exact hM9, (((((hkL.trans hk5).step hx6 zq24).step hx7 zq24).trans hk8).step hx9 zq24)⟩ (by (try dsimp only); omega)
    ·have hfv : fewV vv = vv := by rw [fewV, if_neg Zz]
     rw [hfv] at hfo hst
     refine Ze<|Zf rfl<|Zk<|Zr<|Zom rfl rfl<|Zo (X.loadNB Zi90 Zs90 hB6 rfl rfl rfl) rfl<|Zc (X.litKF KV_flat (K := KV) (xs := [Operand.tmp 53]) (vs := [.agg (encV vv).toArray]) (ys := [vv]) Zu38 Zs90 Zv90 rfl rfl rfl rfl rfl (litV_ok hfo)) rfl ?_
     rintro _ w10 ⟨rfl, hs10, hB10, hk10, hz10⟩
     refine Zc (X.appE (K := KV) (S := fun k => wj.heap.size ≤ k) KV_flat Zu38 EVal rfl rfl (hMt.keep ((hk5.step hx6 zq29).trans hk10)) hs10 zq9 zq29) rfl ?_
     rintro v11 w11 ⟨hM11, hx11⟩
     have hx11' := hx11.size
     refine Zoa rfl rfl<|Ze<|Zi<|Zr<|Zomi rfl rfl<|Zo (X.add rfl rfl (X.w_i64 Zz)) rfl<|Zoai rfl rfl<|Ze ?_
     refine hbi (j + 1, v11) _ _ ⟨rfl, rfl, rfl, rfl, rfl, rfl, trivial⟩ ⟨by omega, by rw [hst]; exact hM11, ((((hkL.trans hk5).step hx6 zq24).trans hk10).step hx11 zq24)⟩ (by (try dsimp only); omega)
   ·have hjn' : j = nn := by omega
    rw [hjn', hnn, few_take (ht.len.trans rfl)] at hMt
    obtain ⟨Aq, cq, rfl, hcq, hsq⟩ := hMt.slF KV_flat wj.heap.size (fun k h => h)
    refine Ze<|Zf rfl<|Zx rfl<|Zs<|Zr<|Zoms rfl rfl<|Zo (X.fldB (j := 0) Zu40 rfl rfl Zs38 rfl) rfl<|Zc (X.storeE Zs38 (hB5.keep hkL) rfl rfl rfl rfl) rfl ?_
    rintro _ w12 ⟨hB12, hx12, hz12⟩
    refine Ze<|Zr<|Zom rfl rfl<|Zo (X.loadNB Zi40 Zs40 hB12 rfl rfl rfl) rfl<|Zc (X.litKF KCt_flat (K := KCt) (xs := [Operand.tmp 59]) (vs := [evC ((Aq, (fewT q.1).length, cq), x.2)]) (ys := [((Aq, (fewT q.1).length, cq), x.2)]) Zu22 Zs40 Zv40 rfl rfl rfl rfl rfl (repsC _)) rfl ?_
    rintro _ w13 ⟨rfl, hs13, hB13, hk13, hz13⟩
    refine Zc (NRow.app (y := ((Aq, (fewT q.1).length, cq), x.2)) (q := fewC q) (hNR.keep (((hkI.trans hkL).step hx12 zq24).trans hk13)) hs13 ⟨eq, oq, hcq, _, _, fun _ h1 h2 => ⟨h1, h2⟩, ((hsq.ext hx12 zq31).keep hk13)⟩ (lo' := wj.heap.size) Zz Zz (Nat.le_of_lt_succ Zz) Zu22 ECt rfl rfl (by rw [List.length_map, List.length_take]; omega)) rfl ?_
    rintro _ w14 ⟨Ar, cr, S', G', rfl, hNn, hx14⟩
    have hx14' := hx14.size
    refine Zoa rfl rfl<|Ze<|Zi<|Zr<|Zomi rfl rfl<|Zo (X.add rfl rfl (X.w_i64 Zz)) rfl<|Zoai rfl rfl<|Ze ?_
    refine hbo (i + 1, .slice Ar ((l.take i).map fewC ++ [fewC q]).length cr) _ _ ⟨rfl, rfl, rfl, trivial⟩ ⟨by omega, by omega, ((hk.trans (((hkI.trans hkL).step hx12 zq24).trans hk13)).step hx14 (fun k h => h.1)), _, _, _, _, by rw [few_step fewC hq]; exact hNn⟩ (by (try dsimp only); omega)
  ·refine Zo (ZdTf rfl rfl) rfl<|Ze<|Zf rfl<|Zx rfl<|Zs<|Zr<|Zom rfl rfl<|Zoa rfl rfl<|Ze<|X.ret1 Zf9 Tryz.results9 rfl ?_
   have hi60 : i = 60 := by omega
   subst hi60
   exact ⟨_, _, _, _, _, rfl, hNR, hk⟩
 ·refine Zomf rfl rfl<|Zp rfl rfl rfl<|Zp rfl rfl rfl<|Zo (ZdFf rfl rfl) rfl<|Ze<|Zf rfl<|Zx rfl<|Zs<|Zr<|Zom rfl rfl<|Zoa rfl rfl<|Ze<|X.ret1 Zf9 Tryz.results9 rfl ?_
  have e : l.take i = l.take 60 := by rw [List.take_of_length_le Zz, List.take_of_length_le Zz]
  rw [e] at hNR
  exact ⟨_, _, _, _, _, rfl, hNR, hk⟩
theorem few_len (l : List CD) : (fewL l).length ≤ 60 := by
  rw [fewL, List.length_map, List.length_take]; omega
abbrev HH := Option Addr × Nat × Nat
def KH : Kd HH := Kd.plain 1 (fun x => [.slice x.1 x.2.1 x.2.2]) (fun _ => True) (fun _ => rfl) (fun _ u hu => by simp at hu; subst hu; rfl)
theorem KH_flat : Flat KH := fun h => h
def NdPg (lo hi : Nat) (w0 : World) : Nd HH (List CD) where
  K := KH
  flat := KH_flat
  R := fun TB w x p => x.2.1 ≤ x.2.2 ∧ ∃ L, HdC lo hi w0 L p ∧ ∃ lo' hi', (∀ k, lo' ≤ k → k < hi' → TB k) ∧ Sl KCt lo' hi' w x.1 x.2.1 L
  ext := fun ⟨h1, L, h2, lo', hi', h3, h4⟩ y hU => ⟨h1, L, h2, lo', hi', h3, h4.ext y fun k a b => hU k (h3 k a b)⟩
  mono := fun ⟨h1, L, h2, lo', hi', h3, h4⟩ hT => ⟨h1, L, h2, lo', hi', fun k a b => hT k (h3 k a b), h4⟩
theorem mine_pg {lo hi : Nat} {w0 w : World} {S : Nat → Prop} {A : Option Addr} {n c : Nat} {L : List CT} {p : List CD} (h : Mine KCt 40 S 0 0 w (.slice A n c) L) (ht : HdC lo hi w0 L p) : (NdPg lo hi w0).R S w (A, n, c) p := by
  obtain ⟨b, ho, hb⟩ := h
  cases b with
  | none =>
    obtain ⟨A', c', e, hc, hs⟩ := (ho.flat KCt_flat (lo' := 0) (hi' := 0)).sl (fun k hk => by cases hk)
    injection e with e1 e2 e3
    subst e1 e2 e3
    exact ⟨hc, L, ht, 0, 0, fun k _ h => by omega, hs⟩
  | some b =>
    obtain ⟨A', c', e, hc, hs⟩ := (ho.flat KCt_flat (lo' := b) (hi' := b + 1)).sl (fun k hk => by cases hk; omega)
    injection e with e1 e2 e3
    subst e1 e2 e3
    exact ⟨hc, L, ht, b, b + 1, fun k h1 h2 => by have : k = b := by omega
                                                  rw [this]; exact hb b rfl, hs⟩
theorem HdC.snoc {lo hi : Nat} {w : World} {L : List CT} {p : List CD} {x : CT} {q : CD} (h : HdC lo hi w L p) (h1 : x.2 = q.2) (h2 : okI q.2) (h3 : x.1.2.1 ≤ x.1.2.2) (h4 : Sl KV lo hi w x.1.1 x.1.2.1 q.1) : HdC lo hi w (L ++ [x]) (p ++ [q]) := by
  refine ⟨by rw [List.length_append, List.length_append, h.1]; rfl, fun i y hy => ?_⟩
  rcases Nat.lt_or_ge i L.length with hi' | hi'
  · rw [List.getElem?_append_left hi'] at hy
    rw [List.getElem?_append_left (by rw [← h.1]; exact hi')]
    exact h.2 i y hy
  · have hl := (List.getElem?_eq_some_iff.1 hy).1
    rw [List.length_append, List.length_singleton] at hl
    have e : i = L.length := by omega
    subst e
    rw [List.getElem?_append_right (Nat.le_refl _), Nat.sub_self] at hy
    cases hy
    exact ⟨q, by rw [h.1, List.getElem?_append_right (Nat.le_refl _), Nat.sub_self]; rfl, h1, h2, h3, h4⟩
theorem HdC.nil (lo hi : Nat) (w : World) : HdC lo hi w [] [] := ⟨rfl, fun i x h => by simp at h⟩
structure PgS (lo hi base : Nat) (w0 w : World) (v : Value) (hs : List HH) (ps : List (List CD)) (cur : List CD) (So Sc Gp : Nat → Prop) (Lc : List CT) : Prop where
  o : Mine KH 22 So 0 0 w v hs
  so : ∀ k, So k → base ≤ k ∧ k < w.heap.size
  sc : ∀ k, Sc k → base ≤ k ∧ k < w.heap.size
  gp : ∀ k, Gp k → base ≤ k ∧ k < w.heap.size
  d1 : ∀ k, So k → ¬ Sc k ∧ ¬ Gp k
  d2 : ∀ k, Sc k → ¬ Gp k
  b : base ≤ w.heap.size
  hc : HdC lo hi w0 Lc cur
  e : (hs = [] ∧ ps = [] ∧ cur = []) ∨ ∃ L x, hs = L ++ [x] ∧ (NdPg lo hi w0).All Gp w L ps ∧ Mine KCt 40 Sc 0 0 w (.slice x.1 x.2.1 x.2.2) Lc ∧ cur ≠ []
section
variable {lo hi base : Nat} {w0 w w' : World} {v : Value} {hs : List HH} {ps : List (List CD)} {cur : List CD} {So Sc Gp : Nat → Prop} {Lc : List CT}
theorem PgS.nil (lo hi base : Nat) (w0 w : World) (hb : base ≤ w.heap.size) : PgS lo hi base w0 w (.slice none 0 0) [] [] [] (fun _ => False) (fun _ => False) (fun _ => False) [] :=
  ⟨Mine.nil _ _ _ _ _ _, fun _ h => h.elim, fun _ h => h.elim, fun _ h => h.elim, fun _ h => h.elim, fun _ h => h.elim, hb, HdC.nil _ _ _, .inl ⟨rfl, rfl, rfl⟩⟩
theorem PgS.keep (h : PgS lo hi base w0 w v hs ps cur So Sc Gp Lc) (x : Keep w w') : PgS lo hi base w0 w' v hs ps cur So Sc Gp Lc := by
  have hz := x.size
  exact ⟨h.o.keep x, fun k a => by have := h.so k a; omega, fun k a => by have := h.sc k a; omega, fun k a => by have := h.gp k a; omega, h.d1, h.d2, by have := h.b; omega, h.hc, h.e.imp id fun ⟨L, y, h1, h2, h3, h4⟩ => ⟨L, y, h1, h2.keep x, h3.keep x, h4⟩⟩
theorem PgS.more {L : List HH} {x x' : HH} {y : CT} {q : CD} {v' : Value} (h : PgS lo hi base w0 w v (L ++ [x]) ps cur So Sc Gp Lc) (hm : Mine KCt 40 (fun k => Sc k ∨ w.heap.size ≤ k) 0 0 w' (.slice x'.1 x'.2.1 x'.2.2) (Lc ++ [y])) (ho : Mine KH 22 So 0 0 w' v' (L ++ [x'])) (hx : Ext (fun k => So k ∨ Sc k ∨ w.heap.size ≤ k) w w') (h1 : y.2 = q.2) (h2 : okI q.2) (h3 : y.1.2.1 ≤ y.1.2.2) (h4 : Sl KV lo hi w0 y.1.1 y.1.2.1 q.1) : PgS lo hi base w0 w' v' (L ++ [x']) ps (cur ++ [q]) So (fun k => (Sc k ∨ w.heap.size ≤ k) ∧ k < w'.heap.size) Gp (Lc ++ [y]) := by
  have hz := hx.size
  have hb := h.b
  rcases h.e with ⟨e, _⟩ | ⟨L', z, e, hA, _, _⟩
  · exact absurd e (by simp)
  have e1 := congrArg (List.take L.length) e
  have hl : L'.length = L.length := by have := congrArg List.length e; simpa using this.symm
  rw [List.take_left' rfl, List.take_left' hl] at e1
  subst e1
  refine ⟨ho, fun k a => by have := h.so k a; omega, fun k a => ?_, fun k a => by have := h.gp k a; omega, fun k a => ⟨fun b => ?_, (h.d1 k a).2⟩, fun k a b => ?_, by omega, h.hc.snoc h1 h2 h3 h4, .inr ⟨L, x', rfl, hA.ext hx fun k a b => ?_, hm.mono fun k a b => ⟨b, a⟩, by simp⟩⟩
  · rcases a with ⟨a | a, a'⟩
    · have := h.sc k a; omega
    · omega
  · rcases b with ⟨b | b, _⟩
    · exact (h.d1 k a).1 b
    · have := h.so k a; omega
  · rcases a with ⟨a | a, _⟩
    · exact h.d2 k a b
    · have := h.gp k b; omega
  · rcases b with b | b | b
    · exact (h.d1 k b).2 a
    · exact h.d2 k b a
    · have := h.gp k a; omega
theorem PgS.page {w1 : World} {x' : HH} {y : CT} {q : CD} {v' : Value} {Sn : Nat → Prop} (h : PgS lo hi base w0 w v hs ps cur So Sc Gp Lc) (hk : Keep w w1) (hm : Mine KCt 40 Sn 0 0 w1 (.slice x'.1 x'.2.1 x'.2.2) [y]) (hSn : ∀ k, Sn k → w.heap.size ≤ k ∧ k < w1.heap.size) (ho : Mine KH 22 (fun k => So k ∨ w1.heap.size ≤ k) 0 0 w' v' (hs ++ [x'])) (hx : Ext (fun k => So k ∨ w1.heap.size ≤ k) w1 w') (h1 : y.2 = q.2) (h2 : okI q.2) (h3 : y.1.2.1 ≤ y.1.2.2) (h4 : Sl KV lo hi w0 y.1.1 y.1.2.1 q.1) :
    PgS lo hi base w0 w' v' (hs ++ [x']) (if cur = [] then ps else ps ++ [cur]) [q] (fun k => (So k ∨ w1.heap.size ≤ k) ∧ k < w'.heap.size) Sn (fun k => Gp k ∨ Sc k) [y] := by
  have hz := hx.size
  have hz1 := hk.size
  have hb := h.b
  have hm' : Mine KCt 40 Sn 0 0 w' (.slice x'.1 x'.2.1 x'.2.2) [y] := hm.ext hx (fun k _ b => by omega) fun k a b => by
    have := hSn k a
    rcases b with b | b
    · have := h.so k b; omega
    · omega
  have hd : HdC lo hi w0 [y] [q] := by simpa using (HdC.nil lo hi w0).snoc h1 h2 h3 h4
  refine ⟨ho.mono fun k a b => ⟨b, a⟩, fun k a => ?_, fun k a => by have := hSn k a; omega, fun k a => ?_, fun k a => ⟨fun b => ?_, fun b => ?_⟩, fun k a b => ?_, by omega, hd, .inr ⟨hs, x', rfl, ?_, hm', by simp⟩⟩
  · rcases a with ⟨a | a, a'⟩
    · have := h.so k a; omega
    · omega
  · rcases a with a | a
    · have := h.gp k a; omega
    · have := h.sc k a; omega
  · have := hSn k b
    rcases a with ⟨a | a, _⟩
    · have := h.so k a; omega
    · omega
  · rcases a with ⟨a | a, _⟩
    · rcases b with b | b
      · exact (h.d1 k a).2 b
      · exact (h.d1 k a).1 b
    · rcases b with b | b
      · have := h.gp k b; omega
      · have := h.sc k b; omega
  · have := hSn k a
    rcases b with b | b
    · have := h.gp k b; omega
    · have := h.sc k b; omega
  · rcases h.e with ⟨e1, e2, e3⟩ | ⟨L, x, e1, hA, hM, hne⟩
    · subst e1 e2 e3
      rw [if_pos rfl]
      exact Nd.All.nil _ _ _
    · rw [if_neg hne, e1]
      have hR := mine_pg (hM.keep hk) h.hc
      refine ((((hA.keep hk).mono (TC := fun k => Gp k ∨ Sc k) fun k a => .inl a).snoc ((NdPg lo hi w0).mono hR fun k a => .inr a)).ext hx fun k a b => ?_)
      rcases b with b | b
      · rcases a with a | a
        · exact (h.d1 k b).2 a
        · exact (h.d1 k b).1 a
      · rcases a with a | a
        · have := h.gp k a; omega
        · have := h.sc k a; omega
theorem PgS.all (h : PgS lo hi base w0 w v hs ps cur So Sc Gp Lc) : NRow (NdPg lo hi w0) 22 base w.heap.size So (fun k => Gp k ∨ Sc k) w v hs (if cur = [] then ps else ps ++ [cur]) := by
  refine ⟨h.o, ?_, h.so, fun k a => a.elim (h.gp k) (h.sc k), Nat.le_refl _, fun k a b => b.elim (h.d1 k a).2 (h.d1 k a).1, h.b⟩
  rcases h.e with ⟨e1, e2, e3⟩ | ⟨L, x, e1, hA, hM, hne⟩
  · subst e1 e2 e3
    rw [if_pos rfl]
    exact Nd.All.nil _ _ _
  · rw [if_neg hne, e1]
    exact (hA.mono (TC := fun k => Gp k ∨ Sc k) fun k a => .inl a).snoc ((NdPg lo hi w0).mono (mine_pg hM h.hc) fun k a => .inr a)
end
theorem HdC.back {lo hi : Nat} {w w' : World} {L : List CT} {p : List CD} {U : Nat → Prop} (h : HdC lo hi w' L p) (x : Ext U w w') (hU : ∀ k, lo ≤ k → k < hi → ¬ U k) (hhi : hi ≤ w.heap.size) : HdC lo hi w L p :=
  ⟨h.1, fun i y hy => let ⟨q, a, b, c, d, e⟩ := h.2 i y hy; ⟨q, a, b, c, d, e.move fun k h1 h2 _ => (x.keep k Zz (hU k h1 h2)).symm⟩⟩
def catP (b : List UInt8) : List LEAF → Option (List CD)
  | [] => some []
  | q :: l => match pgP ((b.take (q.1 + q.2.1)).drop q.1) q.2.2 with
    | none => none
    | some p => (catP b l).map (p ++ ·)
def parP (b : List UInt8) : Option (List CD) := match idxP b with
  | none => none
  | some (l, _) => match catP b l with
    | none => none
    | some out => if isR out = true ∧ runB out = b then some out else none
theorem catP_n {b : List UInt8} {q : LEAF} {l : List LEAF} (h : pgP ((b.take (q.1 + q.2.1)).drop q.1) q.2.2 = none) : catP b (q :: l) = none := by rw [catP, h]
theorem catP_s {b : List UInt8} {q : LEAF} {l : List LEAF} {p : List CD} (h : pgP ((b.take (q.1 + q.2.1)).drop q.1) q.2.2 = some p) : catP b (q :: l) = (catP b l).map (p ++ ·) := by rw [catP, h]
theorem parP_a {b : List UInt8} (h : idxP b = none) : parP b = none := by rw [parP, h]
theorem parP_b {b : List UInt8} {z : List LEAF × Nat} (h : idxP b = some z) (h2 : catP b z.1 = none) : parP b = none := by obtain ⟨l, k⟩ := z; rw [parP, h]; simp only; rw [h2]
theorem parP_c {b : List UInt8} {z : List LEAF × Nat} {out : List CD} (h : idxP b = some z) (h2 : catP b z.1 = some out) (h3 : ¬ (isR out = true ∧ runB out = b)) : parP b = none := by obtain ⟨l, k⟩ := z; rw [parP, h]; simp only; rw [h2]; simp only; exact if_neg h3
theorem parP_d {b : List UInt8} {z : List LEAF × Nat} {out : List CD} (h : idxP b = some z) (h2 : catP b z.1 = some out) (h3 : isR out = true ∧ runB out = b) : parP b = some out := by obtain ⟨l, k⟩ := z; rw [parP, h]; simp only; rw [h2]; simp only; exact if_pos h3
theorem parts_sum {all : Nat} : ∀ {k a : Nat} {last : Option (List VAL)} {x : List UInt8} {l : List LEAF}, parts all k a last x = some l → a ≤ all → (∀ q ∈ l, q.1 + q.2.1 ≤ all) ∧ a + (l.map fun q => q.2.1).sum = all ∧ l.length = k
  | 0, a, last, x, l, h, ha => by
    rw [parts] at h; split at h
    · cases h; rename_i e; exact ⟨fun q hq => (by cases hq), by simpa using e.2, rfl⟩
    · cases h
  | k + 1, a, last, x, l, h, ha => by
    cases h1 : pNum 0 0 x with
    | none => rw [parts_1 h1] at h; cases h
    | some z =>
      cases h2 : pText 1048576 z.2 with
      | none => rw [parts_2 h1 h2] at h; cases h
      | some y =>
        cases h3 : pFrom y.1 with
        | none => rw [parts_3 h1 h2 h3] at h; cases h
        | some t =>
          by_cases h4 : all - a < z.1 ∨ badL last t = true
          · rw [parts_4 h1 h2 h3 h4] at h; cases h
          · rw [parts_5 h1 h2 h3 h4] at h
            obtain ⟨l', h5, rfl⟩ := Option.map_eq_some_iff.1 h
            have hz : ¬ all - a < z.1 := fun e => h4 (.inl e)
            have ih := parts_sum h5 Zz
            refine ⟨fun q hq => ?_, by rw [List.map_cons, List.sum_cons]; simp only []; omega, by rw [List.length_cons, ih.2.2]⟩
            rcases List.mem_cons.1 hq with rfl | hq
            · simp only []; omega
            · exact ih.1 q hq
theorem idxP_sum {b : List UInt8} {z : List LEAF × Nat} (h : idxP b = some z) : (∀ q ∈ z.1, q.1 + q.2.1 ≤ b.length) ∧ (z.1.map fun q => q.2.1).sum ≤ b.length := by
  by_cases h1 : b.length < 8
  · rw [idx_a h1] at h; cases h
  · by_cases h2 : (openC (b.drop (b.length - 8))).1 = 0
    · rw [idx_c h1 h2] at h
      generalize (openC (b.drop (b.length - 8))).2 = t at h
      by_cases h3 : b.length - 8 < le4 t
      · rw [idx_d h3] at h; cases h
      · by_cases h4 : (openC ((b.take (b.length - 8 - le4 t + le4 t)).drop (b.length - 8 - le4 t))).1 = 0
        · rw [idx_f h3 h4] at h
          generalize (openC ((b.take (b.length - 8 - le4 t + le4 t)).drop (b.length - 8 - le4 t))).2 = x at h
          cases h5 : pNum 0 0 x with
          | none => rw [idx_g h5] at h; cases h
          | some u =>
            cases h6 : pNum 0 0 u.2 with
            | none => rw [idx_h h5 h6] at h; cases h
            | some y =>
              by_cases h7 : 9223372036854775807 < y.1
              · rw [idx_i h5 h6 h7] at h; cases h
              · rw [idx_j h5 h6 h7] at h
                obtain ⟨l, h8, rfl⟩ := Option.map_eq_some_iff.1 h
                have := parts_sum h8 (Nat.zero_le _)
                exact ⟨fun q hq => by have := this.1 q hq; omega, by have := this.2.1; simp only []; omega⟩
        · rw [idx_e h3 h4] at h; cases h
    · rw [idx_b h1 h2] at h; cases h
theorem ents_just : ∀ {k : Nat} {x : List UInt8} {p : List CD}, ents k x = some p → x = p.flatMap entB ∧ Oks p ∧ ∀ q ∈ p, isT q.1 = true
  | 0, x, p, h => by
    rw [ents] at h; split at h
    · cases h; rename_i e; exact ⟨by rw [e]; rfl, fun q hq => (by cases hq), fun q hq => (by cases hq)⟩
    · cases h
  | k + 1, x, p, h => by
    cases h1 : pCnt x with
    | none => rw [ents_a h1] at h; cases h
    | some y =>
      rw [ents_b h1] at h
      obtain ⟨p', h2, rfl⟩ := Option.map_eq_some_iff.1 h
      obtain ⟨e1, e2, e3, e4⟩ := pCnt_just h1
      obtain ⟨i1, i2, i3⟩ := ents_just h2
      refine ⟨by rw [List.flatMap_cons, entB_T e2, ← i1]; exact e1, fun q hq => ?_, fun q hq => ?_⟩
      · rcases List.mem_cons.1 hq with rfl | hq
        · exact ⟨e4, e3⟩
        · exact i2 q hq
      · rcases List.mem_cons.1 hq with rfl | hq
        · exact e2
        · exact i3 q hq
theorem pgP_fit {b : List UInt8} {t : List VAL} {p : List CD} (h : pgP b t = some p) : Oks p ∧ (p.flatMap entB).length ≤ b.length ∧ (∀ q ∈ p, isT q.1 = true) := by
  by_cases h1 : (openC b).1 = 0
  · have hl := open_len h1
    cases h2 : pNum 0 0 (openC b).2 with
    | none => rw [pg_b h1 h2] at h; cases h
    | some z =>
      rw [pg_c h1 h2] at h
      obtain ⟨p', h3, h4⟩ := Option.bind_eq_some_iff.1 h
      have e := ents_just h3
      split at h4
      · cases h4
        obtain ⟨pre, _, hp⟩ := pNum_suf h2
        have e1 := congrArg List.length hp
        have e2 := congrArg List.length hl.2
        have e3 := congrArg List.length e.1
        rw [List.length_append] at e1
        rw [List.length_take] at e2
        exact ⟨e.2.1, by omega, e.2.2⟩
      · cases h4
  · rw [pg_a h1] at h; cases h
theorem ent_pos {q : CD} (h : isT q.1 = true) : (tupB q.1).length ≤ (entB q).length ∧ 1 ≤ (entB q).length := by
  rw [entB_T h, cntB, List.length_append]
  have : 1 ≤ (tupB q.1).length := by rw [tupB, List.length_cons]; omega
  omega
theorem count_le : ∀ {l : List CD}, (∀ q ∈ l, isT q.1 = true) → l.length ≤ (l.flatMap entB).length
  | [], _ => Nat.le_refl _
  | q :: l, h => by
    have a := (ent_pos (h q List.mem_cons_self)).2
    have b := count_le (l := l) fun x hx => h x (List.mem_cons_of_mem _ hx)
    rw [List.flatMap_cons, List.length_append, List.length_cons]; omega
theorem Equal_c {lo hi lo2 hi2 : Nat} {A A2 : Option Addr} {n c n2 c2 : Nat} {xs ys : List UInt8} (w : World) (hs : Sl KB lo hi w A n xs) (hs2 : Sl KB lo2 hi2 w A2 n2 ys) (hn : n ≤ 1000000000) : Ret Tryz.prog 65 #[.slice A n c, .slice A2 n2 c2] w fun r w' => r = .bool (decide (xs = ys)) ∧ Keep w w' := by
 have hsl := hs.len
 have hsl2 := hs2.len
 refine X.enter Zf65 rfl Tryz.ntmps65 rfl<|Zs<|Zr<|Zoa rfl rfl<|Ze<|Zs<|Zs<|Zr<|Zoms rfl rfl<|Zo (X.lenSl Zu43 rfl) rfl<|Zoms rfl rfl<|Zo (X.lenSl Zu43 rfl) rfl<|X.opP X.wN rfl rfl (X.neI rfl rfl) (fun h10 => ?_) (fun h10 => ?_)
 ·have hne : xs ≠ ys := fun e => by rw [e] at hsl; omega
  refine Ze<|Zt rfl<|Zs<|Zr<|Zoa rfl rfl<|Ze<|X.ret1 (v := (.bool _)) Zf65 Zr65 rfl ?_
  exact ⟨by rw [decide_eq_false hne], (Keep.refl _)⟩
 ·refine Ze<|Zf rfl<|Zk<|Zs<|Zs<|Zr<|Zoms rfl rfl<|Zo (X.lenSl Zu43 rfl) rfl<|Zom rfl rfl<|Ze<|Zb<|X.loopL (σ := Nat) (fun s => [(0, .slice A n c), (1, .slice A2 n2 c2), (12, .int .i64 (n : Int)), (13, .int .i64 (s : Int))]) (fun s w' => s ≤ n ∧ xs.take s = ys.take s ∧ Keep w w') (fun s => n - s) 0 ⟨rfl, rfl, rfl, rfl, trivial⟩ ⟨Nat.zero_le _, rfl, (Keep.refl _)⟩ ?_
  rintro i b w1 ⟨hi0, hI, hk⟩ hback
  have hk0 := hk.size
  refine Zs<|Zr<|X.opP X.wN rfl rfl (X.lss rfl rfl) (fun h14 => ?_) (fun h14 => ?_)
  ·obtain ⟨x, hx⟩ : ∃ x, xs[i]? = some x := ⟨_, List.getElem?_eq_getElem Zz⟩
   obtain ⟨y, hy⟩ : ∃ y, ys[i]? = some y := ⟨_, List.getElem?_eq_getElem Zz⟩
   refine Ze<|Zs<|Zt rfl<|Zk<|Zs<|Zb<|Zs<|Zr<|Zomi rfl rfl<|Zoai rfl rfl<|Ze<|Zs<|X.regionD (fun k => w.heap.size ≤ k) 9 Zl Zl (fun w1 hk1 hz1 => ?_)
   refine ZDc 0 rfl Zl (Zdms rfl)<|ZDc 1 rfl Zl (Zdmi rfl)<|ZD 2 rfl Zl (fun w' hk' => X.idxS (hs.keep ((hk.trans hk1).step hk' zq29)) Zu43 Zs5 rfl rfl ⟨by omega, by omega⟩) ?_
   refine ZD 3 rfl Zl (fun w' hk' => X.loadS Tryz.isAgg5 (hs.keep ((hk.trans hk1).step hk' zq29)) hx rfl (fun _ h => by rw [h.1]; rfl)) ?_
   refine ZDc 4 rfl Zl (Zdms rfl)<|ZDc 5 rfl Zl (Zdmi rfl)<|ZD 6 rfl Zl (fun w' hk' => X.idxS (hs2.keep ((hk.trans hk1).step hk' zq29)) Zu43 Zs5 rfl rfl ⟨by omega, by omega⟩) ?_
   refine ZD 7 rfl Zl (fun w' hk' => X.loadS Tryz.isAgg5 (hs2.keep ((hk.trans hk1).step hk' zq29)) hy rfl (fun _ h => by rw [h.1]; rfl)) ?_
   refine ZDc 8 rfl Zl (X.neI rfl rfl)<|Zdend Zl<|X.condB rfl (fun hc24 => ?_) (fun hc24 => ?_)
   ·have hne : xs ≠ ys := fun e => by
      rw [e] at hx; rw [hx] at hy; cases hy; simp at hc24
    refine Zs<|Zr<|Zoa rfl rfl<|Ze<|X.ret1 (v := (.bool _)) Zf65 Zr65 rfl ?_
    exact ⟨by rw [decide_eq_false hne], (hk.trans hk1)⟩
   ·have hxy : x = y := by
      have h0 := of_decide_eq_false hc24
      exact UInt8.toNat_inj.1 Zz
    refine Zk<|Zi<|Zr<|Zo (X.add rfl rfl (X.w_i64 Zz)) rfl<|Zomi rfl rfl<|Ze ?_
    refine hback (i + 1) _ _ ⟨rfl, rfl, rfl, rfl, trivial⟩ ⟨by omega, by rw [List.take_add_one, List.take_add_one, hI, hx, hy, hxy], (hk.trans hk1)⟩ Zz
  ·refine Ze<|Zs<|Zf rfl<|Zx rfl<|Zs<|Zr<|Zoa rfl rfl<|Ze<|X.ret1 (v := (.bool _)) Zf65 Zr65 rfl ?_
   have hxy : xs = ys := by
     rw [List.take_of_length_le Zz, List.take_of_length_le Zz] at hI; exact hI
   exact ⟨by rw [decide_eq_true hxy], hk⟩
theorem nrow_lfs {tb base m : Nat} {S G : Nat → Prop} {w : World} {A : Option Addr} {n c : Nat} {L : List LH} {l : List LEAF} (h : NRow NdLf tb base m S G w (.slice A n c) L l) : n = l.length ∧ l.length ≤ c ∧ Sl KLf base w.heap.size w A l.length L ∧ NdLf.All (fun k => base ≤ k ∧ k < w.heap.size) w L l := by
  obtain ⟨A', c', e, hc, hs⟩ := h.rd
  injection e with e1 e2 e3
  subst e1 e3
  exact ⟨e2, hc, hs.wide (Nat.le_refl _) h.l1, h.d.mono fun k hk => h.g k hk⟩
theorem nrow_cts {tb base m : Nat} {S G : Nat → Prop} {w : World} {v : Value} {L : List CT} {l : List CD} (h : NRow NdCt tb base m S G w v L l) : ∃ A c, v = .slice A l.length c ∧ l.length ≤ c ∧ Sl KCt base w.heap.size w A l.length L ∧ NdCt.All (fun k => base ≤ k ∧ k < w.heap.size) w L l := by
  obtain ⟨A', c', e, hc, hs⟩ := h.rd
  exact ⟨A', c', e, hc, hs.wide (Nat.le_refl _) h.l1, h.d.mono fun k hk => h.g k hk⟩
theorem page_e {lo hi lo1 hi1 : Nat} {A A1 : Option Addr} {n c n1 c1 : Nat} {xs : List UInt8} {t : List VAL} (w : World) (hs : Sl KB lo hi w A n xs) (hhi : hi ≤ w.heap.size) (hnc : n ≤ c) (hn : n ≤ 1000000) (ht : Sl KV lo1 hi1 w A1 n1 t) (hh1 : hi1 ≤ w.heap.size) (hTb : TabOk w) : Ret Tryz.prog 43 #[.slice A n c, .slice A1 n1 c1] w fun r w' => ∃ (b1 : Option Addr) (bn bc : Nat) (b2 : Int), r = .tuple #[.slice b1 bn bc, .int .i64 b2] ∧ (b2 ≠ 0 → pgP xs t = none ∧ b2 = 71) ∧ (b2 = 0 → ∃ p L m S G, pgP xs t = some p ∧ NRow NdCt 40 w.heap.size m S G w' (.slice b1 bn bc) L p) ∧ Keep w w' := by
  refine (page_c w hs hhi hnc hn ht hh1 hTb).mono ?_
  rintro r w' ⟨h, hk⟩
  revert h
  cases pgP xs t with
  | none => rintro rfl; exact ⟨_, _, _, _, rfl, fun _ => ⟨rfl, rfl⟩, fun h => absurd h (by decide), hk⟩
  | some p =>
    rintro ⟨v, L, m, S, G, rfl, hN⟩
    obtain ⟨A, c, rfl, _⟩ := nrow_cts hN
    exact ⟨_, _, _, _, rfl, fun h => absurd rfl h, fun _ => ⟨p, L, m, S, G, rfl, hN⟩, hk⟩
theorem kv_tight' {lo hi m : Nat} {w : World} {A : Option Addr} {n : Nat} {l : List VAL} (h : Sl KV lo hi w A n l) (hm : hi ≤ m ∨ hi ≤ lo) : Sl KV 0 m w A n l := kv_tight h fun k a b => by omega
theorem Parse_c {lo hi : Nat} {A : Option Addr} {n c : Nat} {xs : List UInt8} (w : World) (hs : Sl KB lo hi w A n xs) (hhi : hi ≤ w.heap.size) (hnc : n ≤ c) (hn : n ≤ 1000000) (hTb : TabOk w) (hFit : ∀ z out, idxP xs = some z → catP xs z.1 = some out → Fit out) : Ret Tryz.prog 27 #[.slice A n c] w fun r w' => (match parP xs with
    | some l => ∃ v L m S G, r = .tuple #[v, .int .i64 0] ∧ NRow NdCt 40 w.heap.size m S G w' v L l
    | none => r = .tuple #[.slice none 0 0, .int .i64 71]) ∧ Keep w w' := by
 have hsl := hs.len
 have htl := hTb.lt
 refine X.enter Zf27 rfl Tryz.ntmps27 rfl<|Zs<|Zr<|Zoa rfl rfl<|Zoa rfl rfl<|Ze<|Zs<|Zr<|Zoms rfl rfl<|Zc (X.callE (index_c _ hs Zz Zz Zz (hTb.keep (Keep.refl _))) Tryz.call41 rfl rfl) rfl ?_
 rintro vi w1 ⟨him, hk1⟩
 have hvi : ∃ a1 a2 a3 a4 a5, vi = .tuple #[.slice a1 a2 a3, .int .i64 a4, .int .i64 a5] := by
   revert him
   cases idxP xs with
   | none => rintro rfl; exact ⟨_, _, _, _, _, rfl⟩
   | some p => rintro ⟨v, L, m, S, G, rfl, hN⟩; obtain ⟨A, c, rfl, _⟩ := nrow_lf hN; exact ⟨_, _, _, _, _, rfl⟩
 obtain ⟨a1, a2, a3, a4, a5, rfl⟩ := hvi
 have hk1' := hk1.size
 refine Zom rfl rfl<|Zo (X.extr rfl rfl) rfl<|Zo (X.extr rfl rfl) rfl<|Zo (X.extr rfl rfl) rfl<|Zoa rfl rfl<|Zoai rfl rfl<|Zoai rfl rfl<|Ze<|Zs<|Zs<|Zr<|Zomi rfl rfl<|X.opP X.wN rfl rfl (X.neI rfl rfl) (fun h21 => ?_) (fun h21 => ?_)
 ·have hN : idxP xs = none := by
    revert him
    cases idxP xs with
    | none => exact fun _ => rfl
    | some p => rintro ⟨v, L, m, S, G, e, hN⟩; injection e with e; cases e; exact absurd rfl h21
  rw [hN] at him
  injection him with him
  cases him
  refine Ze<|Zt rfl<|Zs<|Zr<|Zomi rfl rfl<|Zoa rfl rfl<|Zoai rfl rfl<|Ze<|X.ret2 (v2 := (.int .i64 _)) Zf27 Zr27 rfl rfl ?_
  refine ⟨?_, hk1⟩
  rw [parP_a hN]
  exact rfl
 ·have hZ : ∃ z, idxP xs = some z := by
    revert him
    cases idxP xs with
    | none => intro e; injection e with e; cases e; exact absurd (Classical.byContradiction h21) (by decide)
    | some p => exact fun _ => ⟨p, rfl⟩
  obtain ⟨z, hz⟩ := hZ
  rw [hz] at him
  obtain ⟨vI, LI, mI, SI, GI, eI, hNI⟩ := him
  injection eI with eI
  cases eI
  obtain ⟨rfl, hlc, hsL, hLA⟩ := nrow_lfs hNI
  obtain ⟨hzq1, hzq2⟩ := idxP_sum hz
  have hLb := hsL.bound
  have hLl := hsL.len
  refine Ze<|Zf rfl<|Zk<|Zs<|Zr<|Zoa rfl rfl<|Ze<|Zs<|Zs<|Zr<|Zoms rfl rfl<|Zo (X.lenSl Zu54 rfl) rfl<|Zom rfl rfl<|Ze<|Zb ?_
  have hKI := hk1
  have hLI := hKI.size
  obtain ⟨wI, hwI⟩ : ∃ wI, wI = w1 := ⟨_, rfl⟩
  have hsLI := hsL
  have hLAI := hLA
  rw [← hwI] at hKI hsLI hLAI
  have hLI := hKI.size
  refine X.loopL (σ := Nat × Value) (fun s => [(0, .slice A n c), (7, s.2), (23, .slice a1 z.1.length a3), (24, .int .i64 (z.1.length : Int)), (25, .int .i64 (s.1 : Int))]) (fun s w' => s.1 ≤ z.1.length ∧ Keep w w' ∧ Ext (fun k => wI.heap.size ≤ k) wI w' ∧ ∃ L S G out, NRow NdCt 40 wI.heap.size w'.heap.size S G w' s.2 L out ∧ out.length + ((z.1.drop s.1).map fun q => q.2.1).sum ≤ xs.length ∧ catP xs z.1 = (catP xs (z.1.drop s.1)).map (out ++ ·)) (fun s => z.1.length - s.1) (0, .slice none 0 0) ⟨rfl, rfl, rfl, rfl, rfl, trivial⟩ ⟨Nat.zero_le _, hk1, by rw [hwI]; exact Ext.refl _ _, [], _, _, [], by rw [hwI]; exact NRow.nil _ _ _ _ (Nat.le_refl _), by (try dsimp only); rw [List.drop_zero]; simp; omega, by (try dsimp only); rw [List.drop_zero]; cases catP xs z.1 <;> rfl⟩ ?_
  rintro ⟨i, v⟩ b w1 ⟨hi0, hk, hxI, L, S, G, out, hNR, hsum, hcat⟩ hback
  dsimp only at hi0 hNR hsum hcat
  have hk0 := hk.size
  have hxI0 := hxI.size
  have hsL1 := hsLI.ext hxI (fun q g1 g2 g3 => by have g3 : _ ≤ q := g3; omega)
  have hLA1 := hLAI.ext hxI (fun q g1 g3 => by have g3 : _ ≤ q := g3; omega)
  refine Zs<|Zr<|X.opP X.wN rfl rfl (X.lss rfl rfl) (fun h26 => ?_) (fun h26 => ?_)
  ·obtain ⟨x, hx⟩ : ∃ x, LI[i]? = some x := ⟨_, List.getElem?_eq_getElem Zz⟩
   obtain ⟨q, hq, e1, e2, hxc, loq, hiq, hTq, hts⟩ := hLA1.2 _ _ hx
   obtain ⟨xa, xb, xh⟩ := x
   dsimp only at e1 e2 hxc hts
   subst e1 e2
   have hqb := hzq1 q (List.mem_of_getElem? hq)
   have hdq : z.1.drop i = q :: z.1.drop (i + 1) := by
     obtain ⟨h, e⟩ := List.getElem?_eq_some_iff.1 hq
     rw [List.drop_eq_getElem_cons h, e]
   rw [hdq, List.map_cons, List.sum_cons] at hsum
   rw [hdq] at hcat
   have hiq9 : hiq ≤ w1.heap.size ∨ hiq ≤ loq := by
     by_cases g : loq < hiq
     ·have := hTq (hiq - 1) Zz Zz; have this : _ ≤ _ ∧ _ := this; left; omega
     ·right; omega
   have htq : Sl KV 0 w1.heap.size w1 xh.1 xh.2.1 q.2.2 := kv_tight' hts hiq9
   refine Ze<|Zs<|Zt rfl<|Zk<|Zs<|Zb<|Zs<|Zr<|Zo (X.idxS hsL1 Zu54 Zs106 rfl rfl ⟨by omega, by omega⟩) rfl<|Zo (X.loadSN Zi106 Zs106 hsL1 hx rfl (fun _ h => h.1) rfl) rfl<|Zc (X.allocE Zv106 rfl) rfl ?_
   rintro _ w2 ⟨rfl, hB2, hk2, hz2⟩
   refine Zc (X.storeNE Zs106 hB2 rfl rfl rfl rfl (fun u hu => by simp at hu; rcases hu with rfl | rfl | rfl <;> rfl)) rfl ?_
   rintro _ w3 ⟨hB3, hx3, hz3⟩
   refine Ze<|Zs<|X.regionD (fun _ => False) 16 Zl Zl (fun w4 hk4 hz4 => ?_)
   refine ZDc 0 rfl Zl (Zdms rfl)<|ZDc 1 rfl Zl (X.fldB (j := 0) Zu106 rfl rfl Zs3 rfl)<|ZD 2 rfl Zl (fun w' hk' => X.load1B Zi3 (hB3.keep (hk4.trans hk')) rfl rfl)<|ZDc 3 rfl Zl (X.fldB (j := 0) Zu106 rfl rfl Zs3 rfl)<|ZD 4 rfl Zl (fun w' hk' => X.load1B Zi3 (hB3.keep (hk4.trans hk')) rfl rfl)<|ZDc 5 rfl Zl (X.fldB (j := 1) Zu106 rfl rfl Zs3 rfl)<|ZD 6 rfl Zl (fun w' hk' => X.load1B Zi3 (hB3.keep (hk4.trans hk')) rfl rfl)<|ZDc 7 rfl Zl (X.add (c := ((q.1 + q.2.1 : Nat) : Int)) rfl rfl (by dsimp only; rw [X.w_i64 Zz]; omega)) ?_
   refine ZDc 8 rfl Zl (X.cutLH Zu43 Zs5 rfl rfl rfl Zz)<|ZDc 9 rfl Zl (X.fldB (j := 2) Zu106 rfl rfl Zs38 rfl)<|ZD 10 rfl Zl (fun w' hk' => X.load1B Zi38 (hB3.keep (hk4.trans hk')) rfl rfl)<|X.dE (i := 11) Zl rfl (X.dwN rfl) (X.callE (page_e _ (((hs.take (q.1 + q.2.1) Zz).drop q.1 c Zz Zz).keep (((hk.trans hk2).step hx3 zq21).trans hk4)) Zz Zz Zz (htq.keep ((hk2.step hx3 zq21).trans hk4)) Zz (hTb.keep (((hk.trans hk2).step hx3 zq21).trans hk4))) Tryz.call43 rfl rfl) (by rintro _ w5 ⟨b1, bn, bc, b2, rfl, hPE, hPZ, hk5⟩ _; exact hk5.mono (fun _ _ h => h.elim)) ?_
   rintro _ w5 ⟨b1, bn, bc, b2, rfl, hPE, hPZ, hk5⟩
   have hk5' := hk5.size
   refine ZDc 12 rfl Zl (X.move rfl)<|ZDc 13 rfl Zl (X.extr rfl rfl)<|ZDc 14 rfl Zl (X.extr rfl rfl)<|ZDc 15 rfl Zl (X.assign rfl)<|X.dStep (i := 16) Zl rfl (X.dwN rfl) (X.assign (v := .int .i64 _) rfl) (fun h => absurd h (by decide))<|Zdend Zl<|Zs<|Zs<|Zr<|Zomi rfl rfl<|X.opP X.wN rfl rfl (X.neI rfl rfl) (fun h45 => ?_) (fun h45 => ?_)
   ·obtain ⟨hpN, rfl⟩ := hPE h45
    refine Ze<|Zt rfl<|Zs<|Zr<|Zomi rfl rfl<|Zoa rfl rfl<|Zoai rfl rfl<|Ze<|X.ret2 (v2 := (.int .i64 _)) Zf27 Zr27 rfl rfl ?_
    refine ⟨?_, ((((hk.trans hk2).step hx3 zq21).trans hk4).trans hk5)⟩
    rw [parP_b hz (by rw [hcat, catP_n hpN]; rfl)]
    exact rfl
   ·obtain ⟨p, LP, mP, SP, GP, hp, hNP⟩ := hPZ (Classical.byContradiction h45)
    obtain ⟨Ap, cp, eP, hcp, hsP, hPA⟩ := nrow_cts hNP
    injection eP with eP1 eP2 eP3
    subst eP1 eP2 eP3
    obtain ⟨hf1, hf2, hf3⟩ := pgP_fit hp
    have hf4 := count_le hf3
    rw [List.length_drop, List.length_take] at hf2
    refine Ze<|Zf rfl<|Zk<|Zr<|Zom rfl rfl<|Zoms rfl rfl<|Zc (NRow.apps (hNR.keep (((hk2.step hx3 zq21).trans hk4).trans hk5)) hsP (hPA) Zz Zz Zz Zu22 ECt rfl rfl Zz) rfl ?_
    rintro _ w6 ⟨Aq, cq, S', G', rfl, hNn, hx6⟩
    have hx6' := hx6.size
    refine Zoa rfl rfl<|Ze<|Zi<|Zr<|Zo (X.add rfl rfl (X.w_i64 Zz)) rfl<|Zomi rfl rfl<|Ze ?_
    refine hback (i + 1, _) _ _ ⟨rfl, rfl, rfl, rfl, rfl, trivial⟩ ⟨by omega, (((((hk.trans hk2).step hx3 zq21).trans hk4).trans hk5).step hx6 zq21), (Ext.andThen (Ext.andThen (Ext.andThen (Ext.andThen (Ext.andThen hxI hk2 zq14) hx3 zq14) hk4 zq14) hk5 zq14) hx6 zq14), _, _, _, out ++ p, (hNn).all, by (try dsimp only); rw [List.length_append]; omega, by (try dsimp only); rw [hcat, catP_s hp, Option.map_map]; cases catP xs (z.1.drop (i + 1)) <;> simp⟩ (by (try dsimp only); omega)
  ·have hin : i = z.1.length := by omega
   subst hin
   rw [List.drop_length] at hcat
   have hcat : catP xs z.1 = some out := by rw [hcat, catP]; simp
   have hF := hFit z out hz hcat
   obtain ⟨Av, cv, rfl, hcv, hkc⟩ := nrow_kc hNR
   refine Ze<|Zs<|Zf rfl<|Zx rfl<|Zs<|Zs<|Zr<|Zoms rfl rfl<|Zc (X.callE (Bytes_F _ hkc Zz hcv hF (hTb.keep hk)) Zc18 rfl rfl) rfl ?_
   rintro _ w7 ⟨v7, rfl, hM7, hk7⟩
   have hk7' := hk7.size
   refine Zom rfl rfl<|Zo (X.extr rfl rfl) rfl<|Zo (X.extr rfl rfl) rfl<|Zoa rfl rfl<|Zoai rfl rfl<|Ze<|Zs<|Zr<|Zomi rfl rfl<|X.opP X.wN rfl rfl (X.neI rfl rfl) (fun h57 => ?_) (fun h57 => ?_)
   ·have hrF : ¬ isR out = true := fun e => by rw [if_pos e] at h57; exact h57 rfl
    refine Zomt rfl rfl<|Zp rfl rfl rfl<|Zp rfl rfl rfl<|Zp rfl rfl rfl<|Zp rfl rfl rfl<|Zo (ZdTt rfl rfl) rfl<|Ze<|Zt rfl<|Zs<|Zr<|Zoa rfl rfl<|Zoa rfl rfl<|Ze<|X.ret2 (v2 := (.int .i64 _)) Zf27 Zr27 rfl rfl ?_
    refine ⟨?_, (hk.trans hk7)⟩
    rw [parP_c hz hcat (fun e => hrF e.1)]
    exact rfl
   ·have hrT : isR out = true := by
      cases hq : isR out with
      | true => rfl
      | false => rw [hq] at h57; exact absurd (Classical.byContradiction h57) (by decide)
    have hRl : (if isR out = true then runB out else []) = runB out := if_pos hrT
    have hRs := (hF.sizes hrT).2.2.2
    refine Zomf rfl rfl<|Zg (X.move rfl) rfl rfl rfl rfl<|Zg (Zdms rfl) rfl rfl rfl rfl ?_
    have q9 := hM7.slF KB_flat 0 (fun _ _ => Nat.zero_le _)
    obtain ⟨A9, c9, rfl, hc9, hs9⟩ := q9
    refine X.opE (X.wG rfl rfl rfl) rfl (X.callE (Equal_c _ hs9 (hs.keep (hk.trans hk7)) (by rw [hRl]; omega)) Tryz.call65 rfl rfl) ?_
    rintro _ w8 ⟨rfl, hk8⟩
    have hk8' := hk8.size
    refine Zg (X.not_ rfl) rfl rfl rfl rfl<|Zo (ZdFo rfl rfl) rfl<|Ze<|X.condB rfl (fun hc => ?_) (fun hc => ?_)
    ·-- hcT
     refine Zs<|Zr<|Zoa rfl rfl<|Zoa rfl rfl<|Ze<|X.ret2 (v2 := (.int .i64 _)) Zf27 Zr27 rfl rfl ?_
     refine ⟨?_, ((hk.trans hk7).trans hk8)⟩
     rw [parP_c hz hcat (fun e => by rw [hRl, decide_eq_true e.2] at hc; simp at hc)]
     exact rfl
    ·-- hcF
     refine Zk<|Zs<|Zr<|Zoms rfl rfl<|Zoas rfl rfl<|Zoa rfl rfl<|Ze<|X.ret2 (v2 := (.int .i64 _)) Zf27 Zr27 rfl rfl ?_
     refine ⟨?_, ((hk.trans hk7).trans hk8)⟩
     rw [parP_d hz hcat ⟨hrT, by rw [hRl] at hc; exact of_decide_eq_true (by simpa using hc)⟩]
     exact ⟨_, _, _, _, _, rfl, ((hNR.keep (hk7.trans hk8))).low Zz⟩
end Go.Proofs.YtbljooblpfdbiaaGreatDoor
