/- Texts that the proof of CacheSame stands on, part 14. -/
import Derived.Shelf.Sort.Plain
import Derived.Shelf.Slices.In.SortNone
import Derived.Shelf.Slices.CompactI
import Derived.Sort.OwnSorted
import Derived.Sort.OwnSortedInts
import Derived.Test.YtjjhddjllpihaaaGreatDoorProg
import Derived.Test.YtjjhddjllpihaaaGreatDoorBunCacheSame13
set_option maxHeartbeats 4000000
set_option maxRecDepth 100000
set_option linter.unusedSimpArgs false
set_option linter.unusedVariables false
namespace Go.Proofs.YtjjhddjllpihaaaGreatDoor.X
open Go Go.Proofs Go.Sort Go.Shelf Go.RowKit
/-! ### what slices.Compact keeps -/
section
variable {d : Array Int} {zs : List Int}
theorem get!_mem {d : Array Int} {j : Nat} (h : j < d.size) : d[j]! ∈ d.toList := by
  rw [getElem!_pos d j h]; simp
theorem cut_sub {m : Nat} (hm : m ≤ d.size) {x : Int} (h : x ∈ Lib.compactUpTo d m) : ∃ j, j < m ∧ x = d[j]! := by
  obtain ⟨j, hj, rfl⟩ := List.mem_map.1 h
  exact ⟨j, List.mem_range.1 (List.mem_filter.1 hj).1, rfl⟩
theorem cut_mem (d : Array Int) : ∀ (m j : Nat), j < m → d[j]! ∈ Lib.compactUpTo d m
  | 0, j, h => by omega
  | m + 1, j, h => by
    rw [Lib.compactUpTo_succ]
    rcases Nat.lt_or_ge j m with hj | hj
    · exact List.mem_append_left _ (cut_mem d m j hj)
    · have : j = m := by omega
      subst this
      by_cases hk : Lib.keeps d j = true
      · rw [if_pos hk]; exact List.mem_append_right _ (by simp)
      · have h1 : ¬ (j = 0 ∨ d[j]! ≠ d[j - 1]!) := fun h => hk (by simp only [Lib.keeps, decide_eq_true_eq]; exact h)
        have h2 : j ≠ 0 := fun e => h1 (.inl e)
        have h3 : d[j]! = d[j - 1]! := Classical.byContradiction fun e => h1 (.inr e)
        rw [h3]
        exact List.mem_append_left _ (cut_mem d j (j - 1) Zz)
theorem cut_inc (hs : ∀ i j, i ≤ j → j < d.size → d[i]! ≤ d[j]!) : ∀ m, m ≤ d.size → (Lib.compactUpTo d m).Pairwise (· < ·)
  | 0, _ => by simp [Lib.compactUpTo]
  | m + 1, hm => by
    rw [Lib.compactUpTo_succ]
    have ih := cut_inc hs m Zz
    by_cases hk : Lib.keeps d m = true
    · rw [if_pos hk]
      refine List.pairwise_append.2 ⟨ih, by simp, fun a ha b hb => ?_⟩
      simp only [List.mem_singleton] at hb
      subst hb
      obtain ⟨j, hj, rfl⟩ := cut_sub Zz ha
      simp only [Lib.keeps, decide_eq_true_eq] at hk
      rcases hk with hk | hk
      · omega
      · have h1 := hs j (m - 1) Zz Zz
        have h2 := hs (m - 1) m Zz Zz
        omega
    · rw [if_neg hk, List.append_nil]; exact ih
theorem compact_sub (zs : List Int) : ∀ x, x ∈ Lib.compact zs → x ∈ zs := fun x h => by
  obtain ⟨j, hj, rfl⟩ := cut_sub (d := zs.toArray) (by simp) h
  simpa using get!_mem (d := zs.toArray) (j := j) (by simpa using hj)
theorem compact_mem {x : Int} (h : x ∈ zs) : x ∈ Lib.compact zs := by
  obtain ⟨j, hj⟩ := List.getElem?_of_mem h
  have hl := (List.getElem?_eq_some_iff.1 hj).1
  have := cut_mem zs.toArray zs.length j hl
  rw [getElem!_pos zs.toArray j (by simpa using hl)] at this
  have e : zs.toArray[j]'(by simpa using hl) = x := by
    have := (List.getElem?_eq_some_iff.1 hj).2
    simpa using this
  rw [e] at this
  exact this
theorem compact_inc (h : zs.Pairwise (· ≤ ·)) : (Lib.compact zs).Pairwise (· < ·) := by
  refine cut_inc (fun i j hij hj => ?_) zs.length (by simp)
  have hj' : j < zs.length := by simpa using hj
  rw [getElem!_pos zs.toArray i (by simp; omega), getElem!_pos zs.toArray j hj]
  simp only [List.getElem_toArray]
  rcases Nat.lt_or_ge i j with h1 | h1
  · exact List.pairwise_iff_getElem.1 h i j Zz hj' h1
  · have : i = j := by omega
    subst this; exact Int.le_refl _
def nrs (l : List Int) : List Int := Lib.compact (l.mergeSort fun x y => decide (x ≤ y))
theorem nrs_mem {l : List Int} {x : Int} : x ∈ nrs l ↔ x ∈ l := ⟨fun h => List.mem_mergeSort.1 (compact_sub _ x h), fun h => compact_mem (List.mem_mergeSort.2 h)⟩
theorem nrs_inc (l : List Int) : (nrs l).Pairwise (· < ·) := compact_inc (by
  have := List.pairwise_mergeSort (le := fun x y : Int => decide (x ≤ y)) (by intro a b c; simp; omega) (by intro a b; simp; omega) l
  exact this.imp (by simp))
end
section
variable {P : Program} {ρ : Ren} {w w' : World} {e : TypeId} {S : Nat → Prop} {A : Option Addr} {n c : Nat}
def sortB (xs : List ByteArray) : List ByteArray := ((xs.map fun s => s.data.toList).mergeSort fun x y => decide (x ≤ y)).map fun l => ⟨l.toArray⟩
end
end Go.Proofs.YtjjhddjllpihaaaGreatDoor.X
namespace Go.Proofs.YtjjhddjllpihaaaGreatDoor
open Go Go.Proofs.YtjjhddjllpihaaaGreatDoor.X
section
variable {w : World} {e : TypeId} {S : Nat → Prop} {A : Option Addr} {n c : Nat}
end
def newF (l : List CHG) : List Int := (l.filter fun c => decide (c.1 = ⟨#[]⟩)).map fun c => c.2.2
def DS.near (s : DS) : List Int := nrs (s.fx.map (·.2) ++ newF s.chs)
def vals (d : DIR) (ds : List ByteArray) : List Int := ds.reverse.map fun k => (asc k d).getD 0
def spotL (ls : LS) (k : Int) (n : Nat) : List Int := ((List.range n).filter fun i : Nat => (asc (k, (i : Int)) ls).getD false).map fun i : Nat => (i : Int)
def DS.spots (k : Int) (s : DS) : List Int := spotL s.ls k (secs (flen s.fs k))
def looseL (s : DS) : List Int → Nat × Nat
  | [] => (0, 0)
  | k :: l => ((s.spots k).length + (looseL s l).1, (if (fat s.fs k).1.length ≠ (fat s.fs k).2.length then 1 else 0) + (looseL s l).2)
def DS.loose (s : DS) : Nat × Nat × Nat := (s.chs.length, looseL s s.near)
def bit (l : List Bool) (n : Nat) : Bool := l.getD n false
def zap (fx b : List UInt8) (s : Nat) : List UInt8 := b.mapIdx fun i y => if i / 64 = s then fx.getD i 0 else y
def zaps (kp : List Bool) (fx : List UInt8) : Nat → List Int → List UInt8 → List UInt8
  | _, [], b => b
  | n, s :: l, b => zaps kp fx (n + 1) l (if bit kp n = true then b else zap fx b s.toNat)
def keptB (kp : List Bool) (n : Nat) (sp : List Int) (f : FILE) (size : Nat) : List UInt8 := ((fun all : List UInt8 => (all ++ f.2.drop all.length).take size) (zaps kp f.2 n sp f.1))
def sizeK (sz : List Bool) (m : Nat) (f : FILE) : Nat := if f.1.length ≠ f.2.length ∧ bit sz m = true then f.1.length else f.2.length
def cntK (f : FILE) : Nat := if f.1.length ≠ f.2.length then 1 else 0
def tns (cs : List CHG) (d : DIR) : DIR := cs.foldl (fun d c => trn c d) d
def nameOf (d : DIR) (k : Int) : Option ByteArray := (d.find? fun p => decide (p.2 = k)).map (·.1)
def loseF (s : DS) (d : DIR) (kp sz : List Bool) : List Int → Nat → Nat → List FILE × DIR → List FILE × DIR
  | [], _, _, o => o
  | k :: l, n, m, o => loseF s d kp sz l (n + (s.spots k).length) (m + cntK (fat s.fs k)) (match nameOf d k with
    | none => o
    | some nm => (fun b : List UInt8 => (o.1 ++ [(b, b)], put nm (o.1.length : Int) o.2)) (keptB kp n (s.spots k) (fat s.fs k) (sizeK sz m (fat s.fs k))))
def DS.left (dn : Nat) (kp sz : List Bool) (s : DS) : List FILE × DIR := loseF s (tns (s.chs.take dn) s.fx) kp sz s.near 0 0 ([], [])
def DS.mk0 (rm : Int) (fs : List FILE) (dir fx : DIR) : DS := { rm, fs, dir, fx, chs := [], ls := [], fu := false, lf := 0 }
section
variable {col : Nat → Nat} {w w' : World} {b bf bd bx bl : Nat} {A : Option Addr} {n c : Nat} {pt : List Nat} {s : DS}
end
theorem New_ok (rm : Int) (w : World) (hrm : 1 ≤ rm ∧ rm ≤ 1048576) : Ret Tryz.prog 6 #[.int .i64 rm] w fun r w' => ∃ b bf bd bx bl col, r = .tuple #[ptrV b, .int .i64 0] ∧ DkB col w' b bf bd bx bl none 0 0 [] (DS.mk0 rm [] [] []) ∧ (∀ q, col q ≠ 0 → w.heap.size ≤ q) ∧ Keep w w' := by
  refine (New_c rm w).mono ?_
  rintro r w' (⟨h1, _⟩ | ⟨_, b, bf, bd, bx, bl, rfl, hB, hF, hG, hX, hL, h1, h2, h3, h4, h5, h6, hk⟩)
  · omega
  · refine ⟨b, bf, bd, bx, bl, (fun q => if q = b then 1 else if q = bf then 2 else if q = bd then 3 else if q = bx then 4 else if q = bl then 5 else 0), rfl, ⟨hB, hF, hG, hX, hL, Mine.nil _ _ _ _ _ _, ?_, ?_, ?_, ?_, ?_, ?_, rfl, fun k p f a1 _ => by simp at a1⟩, ?_, hk⟩
    · simp
    · simp only []; rw [if_neg Zz, if_pos True.intro]
    · simp only []; rw [if_neg Zz, if_neg Zz, if_pos True.intro]
    · simp only []; rw [if_neg Zz, if_neg Zz, if_neg Zz, if_pos True.intro]
    · simp only []; rw [if_neg Zz, if_neg Zz, if_neg Zz, if_neg Zz, if_pos True.intro]
    · intro q hq
      try simp only [] at hq
      split at hq
      · omega
      · split at hq
        · omega
        · split at hq
          · omega
          · split at hq
            · omega
            · split at hq
              · omega
              · exact absurd rfl hq
    · intro q hq
      try simp only [] at hq
      split at hq
      · omega
      · split at hq
        · omega
        · split at hq
          · omega
          · split at hq
            · omega
            · split at hq
              · omega
              · exact absurd rfl hq
theorem put_mem {κ ν : Type} [DecidableEq κ] {x : κ} {v : ν} : ∀ {m : List (κ × ν)} {p : κ × ν}, p ∈ put x v m → p = (x, v) ∨ p ∈ m
  | [], p, h => by simp [put] at h; exact .inl h
  | (a, u) :: m, p, h => by
    rw [put] at h
    split at h
    · rename_i e
      rcases List.mem_cons.1 h with h | h
      · exact .inl (by rw [h, e])
      · exact .inr (List.mem_cons_of_mem _ h)
    · rcases List.mem_cons.1 h with h | h
      · exact .inr (by rw [h]; exact List.mem_cons_self)
      · exact (put_mem h).imp id (List.mem_cons_of_mem _)
theorem put_len {κ ν : Type} [DecidableEq κ] (x : κ) (v : ν) : ∀ m : List (κ × ν), (put x v m).length ≤ m.length + 1
  | [] => by simp [put]
  | (a, u) :: m => by
    rw [put]
    split
    · simp
    · have := put_len x v m; simp; omega
theorem put_inj {κ ν : Type} [DecidableEq κ] {x : κ} {v : ν} : ∀ {m : List (κ × ν)}, (m.map (·.2)).Nodup → v ∉ m.map (·.2) → ((put x v m).map (·.2)).Nodup
  | [], _, _ => by simp [put]
  | (a, u) :: m, hn, hv => by
    simp only [List.map_cons, List.nodup_cons, List.mem_cons, not_or] at hn hv
    rw [put]
    split
    · simp only [List.map_cons, List.nodup_cons]; exact ⟨hv.2, hn.2⟩
    · simp only [List.map_cons, List.nodup_cons]
      refine ⟨fun h => ?_, put_inj hn.2 hv.2⟩
      obtain ⟨p, hp, e⟩ := List.mem_map.1 h
      rcases put_mem hp with rfl | hp
      · exact hv.1 e
      · exact hn.1 (by rw [← e]; exact List.mem_map.2 ⟨p, hp, rfl⟩)
theorem trn_eq (c : CHG) (d : DIR) : trn c d = if c.2.1 = ⟨#[]⟩ then (if c.1 = ⟨#[]⟩ then d else del c.1 d) else put c.2.1 c.2.2 (if c.1 = ⟨#[]⟩ then d else del c.1 d) := rfl
theorem trn_ne {c : CHG} {d : DIR} (h : ∀ p, p ∈ d → p.1 ≠ ⟨#[]⟩) : ∀ p, p ∈ trn c d → p.1 ≠ ⟨#[]⟩ := by
  have h1 : ∀ p, p ∈ (if c.1 = ⟨#[]⟩ then d else del c.1 d) → p.1 ≠ ⟨#[]⟩ := fun p hp => by
    split at hp
    · exact h p hp
    · exact h p ((del_sub d).subset hp)
  intro p hp
  rw [trn_eq] at hp
  split at hp
  · exact h1 p hp
  · rename_i e
    rcases put_mem hp with rfl | hp
    · exact e
    · exact h1 p hp
theorem tns_ne : ∀ {cs : List CHG} {d : DIR}, (∀ p, p ∈ d → p.1 ≠ ⟨#[]⟩) → ∀ p, p ∈ tns cs d → p.1 ≠ ⟨#[]⟩
  | [], _, h => h
  | c :: cs, d, h => tns_ne (cs := cs) (trn_ne (c := c) h)
def DirOk (n : Nat) (d : DIR) : Prop := (∀ p, p ∈ d → 0 ≤ p.2 ∧ p.2 < (n : Int) ∧ p.1.size ≤ 64) ∧ (d.map (·.1)).Nodup
theorem DirOk.trn {n : Nat} {d : DIR} (h : DirOk n d) {c : CHG} (hc : c.2.1 ≠ ⟨#[]⟩ → 0 ≤ c.2.2 ∧ c.2.2 < (n : Int) ∧ c.2.1.size ≤ 64) : DirOk n (trn c d) := by
  have h1 : DirOk n (if c.1 = ⟨#[]⟩ then d else del c.1 d) := by
    split
    · exact h
    · exact ⟨fun p hp => h.1 p ((del_sub d).subset hp), del_nodup h.2⟩
  rw [trn_eq]
  split
  · exact h1
  · rename_i e
    refine ⟨fun p hp => ?_, put_nodup h1.2⟩
    rcases put_mem hp with rfl | hp
    · exact hc e
    · exact h1.1 p hp
theorem DirOk.tns {n : Nat} : ∀ {cs : List CHG} {d : DIR}, DirOk n d → (∀ c, c ∈ cs → c.2.1 ≠ ⟨#[]⟩ → 0 ≤ c.2.2 ∧ c.2.2 < (n : Int) ∧ c.2.1.size ≤ 64) → DirOk n (tns cs d)
  | [], _, h, _ => h
  | c :: cs, d, h, hc => DirOk.tns (cs := cs) (h.trn (hc c List.mem_cons_self)) fun x hx => hc x (List.mem_cons_of_mem _ hx)
theorem tns_app (cs : List CHG) (c : CHG) (d : DIR) : tns (cs ++ [c]) d = trn c (tns cs d) := by rw [tns, List.foldl_append]; rfl
structure DS.Inv (s : DS) : Prop where
  ok : s.Ok
  tie : s.dir = tns s.chs s.fx
  inj : ∀ i, ((tns (s.chs.take i) s.fx).map (·.2)).Nodup
  fewi : ∀ i, (tns (s.chs.take i) s.fx).length ≤ 256
  nef : ∀ p, p ∈ s.fx → p.1 ≠ ⟨#[]⟩
theorem Inv_new {rm : Int} (h : 1 ≤ rm ∧ rm ≤ 1048576) : (DS.mk0 rm [] [] []).Inv :=
  ⟨⟨h, (fun _ h => by cases h), (fun _ h => by cases h), (fun _ h => by cases h), (fun _ h => by cases h), (fun _ h => by cases h), Nat.zero_le _, Nat.zero_le _, (show (0 : Int) ≤ 0 ∧ (0 : Int) ≤ 1048576 by decide), List.nodup_nil, List.nodup_nil⟩, rfl, fun i => by simp [DS.mk0, tns], fun i => by simp [DS.mk0, tns], fun _ h => by cases h⟩
theorem DS.Ok.did {s : DS} (h : s.Ok) (hd : ¬ s.down = true) : s.did.Ok := by
  refine ⟨h.rm, h.dir, h.fx, h.chs, h.chn, h.fs, h.few, h.fewx, ?_, h.nd, h.ndx⟩
  have h1 := h.lf
  simp only [DS.did]
  split
  · rename_i hf
    have : ¬ s.lf ≤ 0 := fun hl => hd (by rw [DS.down, hf]; simpa using hl)
    omega
  · exact h1
theorem DS.Inv.did {s : DS} (h : s.Inv) (hd : ¬ s.down = true) : s.did.Inv := ⟨h.ok.did hd, h.tie, h.inj, h.fewi, h.nef⟩
theorem DS.Inv.note {s : DS} (h : s.Inv) {c : CHG} (h1 : c.1 = ⟨#[]⟩ → 0 ≤ c.2.2 ∧ c.2.2 < (s.fs.length : Int)) (h2 : c.2.1 ≠ ⟨#[]⟩ → 0 ≤ c.2.2 ∧ c.2.2 < (s.fs.length : Int) ∧ c.2.1.size ≤ 64) (h3 : ((trn c s.dir).map (·.2)).Nodup) (h4 : (trn c s.dir).length ≤ 256) : (s.note c).Inv := by
  have hd : DirOk s.fs.length (trn c s.dir) := DirOk.trn ⟨fun p hp => h.ok.dir p hp, h.ok.nd⟩ h2
  have ht : trn c s.dir = tns (s.chs ++ [c]) s.fx := by rw [tns_app, ← h.tie]
  refine ⟨⟨h.ok.rm, hd.1, h.ok.fx, ?_, ?_, h.ok.fs, h4, h.ok.fewx, h.ok.lf, hd.2, h.ok.ndx⟩, ht, ?_, ?_, h.nef⟩
  · intro x hx
    rcases List.mem_append.1 hx with hx | hx
    · exact h.ok.chs x hx
    · rw [List.mem_singleton.1 hx]; exact h1
  · intro x hx
    rcases List.mem_append.1 hx with hx | hx
    · exact h.ok.chn x hx
    · rw [List.mem_singleton.1 hx]; exact h2
  · intro i
    show ((tns ((s.chs ++ [c]).take i) s.fx).map (·.2)).Nodup
    rcases Nat.lt_or_ge s.chs.length i with hi | hi
    · rw [List.take_of_length_le (by simp; omega), ← ht]; exact h3
    · rw [List.take_append_of_le_length hi]; exact h.inj i
  · intro i
    show (tns ((s.chs ++ [c]).take i) s.fx).length ≤ 256
    rcases Nat.lt_or_ge s.chs.length i with hi | hi
    · rw [List.take_of_length_le (by simp; omega), ← ht]; exact h4
    · rw [List.take_append_of_le_length hi]; exact h.fewi i
theorem DS.Inv.vals {s : DS} (h : s.Inv) : (s.dir.map (·.2)).Nodup := by
  have := h.inj s.chs.length
  rwa [List.take_length, ← h.tie] at this
theorem DS.Inv.ne {s : DS} (h : s.Inv) : ∀ p, p ∈ s.dir → p.1 ≠ ⟨#[]⟩ := by
  rw [h.tie]; exact tns_ne h.nef
theorem DS.Inv.create {s : DS} (h : s.Inv) (nm : ByteArray) : (s.create nm).2.Inv := by
  rw [DS.create]
  split
  · exact h
  · rename_i hd
    split
    · exact h
    · rename_i hr
      split
      · exact h
      · rename_i hth
        split
        · exact h
        · rename_i hf
          have h0 : ({ s with fs := s.fs ++ [([], [])] } : DS).Inv := by
            refine ⟨⟨h.ok.rm, fun p hp => ?_, fun p hp => ?_, fun c hc he => ?_, fun c hc he => ?_, fun f hf => ?_, h.ok.few, h.ok.fewx, h.ok.lf, h.ok.nd, h.ok.ndx⟩, h.tie, h.inj, h.fewi, h.nef⟩
            · have := h.ok.dir p hp; simp; omega
            · have := h.ok.fx p hp; simp; omega
            · have := h.ok.chs c hc he; simp; omega
            · have := h.ok.chn c hc he; simp; omega
            · rcases List.mem_append.1 hf with hf | hf
              · exact h.ok.fs f hf
              · rw [List.mem_singleton.1 hf]; exact ⟨Nat.zero_le _, Nat.zero_le _⟩
          have hrn : nm ≠ ⟨#[]⟩ ∧ nm.size ≤ 64 := by
            cases hq : rightN nm with
            | false => exact absurd hq hr
            | true => rw [rightN] at hq; simpa using hq
          have e1 : trn (⟨#[]⟩, nm, (s.fs.length : Int)) s.dir = put nm (s.fs.length : Int) s.dir := by rw [trn_eq, if_neg hrn.1, if_pos rfl]
          refine (h0.note (c := (⟨#[]⟩, nm, (s.fs.length : Int))) (fun _ => by simp; omega) (fun _ => by simp; exact ⟨by omega, hrn.2⟩) ?_ ?_).did (fun e => hd e)
          · show ((trn (⟨#[]⟩, nm, (s.fs.length : Int)) s.dir).map (·.2)).Nodup
            rw [e1]
            refine put_inj h.vals fun hm => ?_
            obtain ⟨p, hp, e⟩ := List.mem_map.1 hm
            have := h.ok.dir p hp; omega
          · show (trn (⟨#[]⟩, nm, (s.fs.length : Int)) s.dir).length ≤ 256
            rw [e1]
            have := put_len nm (s.fs.length : Int) s.dir
            omega
theorem DS.Inv.delete {s : DS} (h : s.Inv) (nm : ByteArray) : (s.delete nm).2.Inv := by
  rw [DS.delete]
  split
  · exact h
  · rename_i hd
    split
    · exact h
    · rename_i hn
      have hpos : 0 < s.fs.length := by
        cases ha : asc nm s.dir with
        | none => exact absurd ha hn
        | some k => have := h.ok.dir _ (asc_some ha); omega
      have hs : (trn (nm, ⟨#[]⟩, 0) s.dir).Sublist s.dir := by
        rw [trn_eq, if_pos rfl]
        split
        · exact List.Sublist.refl _
        · exact del_sub _
      refine (h.note (c := (nm, ⟨#[]⟩, 0)) (fun _ => by simp; exact hpos) (fun e => absurd rfl e) (h.vals.sublist (hs.map _)) ?_).did (fun e => hd e)
      exact Nat.le_trans hs.length_le h.ok.few
theorem DS.Inv.files {s : DS} (h : s.Inv) {fs : List FILE} {ls : LS} (hl : fs.length = s.fs.length) (hf : ∀ f, f ∈ fs → f.1.length ≤ 1048576 ∧ f.2.length ≤ 1048576) : ({ s with fs := fs, ls := ls } : DS).Inv :=
  ⟨⟨h.ok.rm, by rw [hl]; exact h.ok.dir, by rw [hl]; exact h.ok.fx, by rw [hl]; exact h.ok.chs, by rw [hl]; exact h.ok.chn, hf, h.ok.few, h.ok.fewx, h.ok.lf, h.ok.nd, h.ok.ndx⟩, h.tie, h.inj, h.fewi, h.nef⟩
theorem set_files {fs : List FILE} {k : Nat} {g : FILE} (h : ∀ f, f ∈ fs → f.1.length ≤ 1048576 ∧ f.2.length ≤ 1048576) (hg : g.1.length ≤ 1048576 ∧ g.2.length ≤ 1048576) : ∀ f, f ∈ fs.set k g → f.1.length ≤ 1048576 ∧ f.2.length ≤ 1048576 := fun f hf => by
  rcases List.mem_or_eq_of_mem_set hf with hf | rfl
  · exact h f hf
  · exact hg
theorem DS.Ok.fatl {s : DS} (h : s.Ok) (k : Int) : (fat s.fs k).1.length ≤ 1048576 ∧ (fat s.fs k).2.length ≤ 1048576 := by
  rw [fat, List.getD_eq_getElem?_getD]
  cases hf : s.fs[k.toNat]? with
  | none => exact ⟨Nat.zero_le _, Nat.zero_le _⟩
  | some f => exact h.len hf
theorem DS.Inv.sync {s : DS} (h : s.Inv) (nm : ByteArray) : (s.sync nm).2.Inv := by
  rw [DS.sync]
  split
  · exact h
  · rename_i hd
    split
    · exact h
    · rename_i k hk
      have := h.ok.fatl k
      exact (h.files (by simp) (set_files (g := ((fat s.fs k).1, (fat s.fs k).1)) h.ok.fs ⟨this.1, this.1⟩)).did (fun e => hd e)
theorem DS.Inv.write {s : DS} (h : s.Inv) (nm : ByteArray) (a : Int) (x : List UInt8) : (s.write nm a x).2.Inv := by
  rw [DS.write]
  split
  · exact h
  · rename_i hd
    split
    · exact h
    · rename_i k hk
      split
      · exact h
      · rename_i h1
        split
        · exact h
        · rename_i h2
          split
          · exact h
          · have hl := h.ok.fatl k
            have hw := wrt_len (fat s.fs k).1 a.toNat x Zz
            exact (h.files (by simp) (set_files (g := (wrt (fat s.fs k).1 a.toNat x, (fat s.fs k).2)) h.ok.fs ⟨by (dsimp only); rw [hw]; omega, hl.2⟩)).did (fun e => hd e)
theorem DS.Inv.fuse {s : DS} (h : s.Inv) (n : Int) : (s.fuse n).2.Inv := by
  rw [DS.fuse]
  split
  · exact h
  · exact ⟨⟨h.ok.rm, h.ok.dir, h.ok.fx, h.ok.chs, h.ok.chn, h.ok.fs, h.ok.few, h.ok.fewx, ⟨by (dsimp only); omega, by (dsimp only); omega⟩, h.ok.nd, h.ok.ndx⟩, h.tie, h.inj, h.fewi, h.nef⟩
def tks (f : Int → Nat) (d : DIR) : Nat := (d.map fun p => f p.2).sum
theorem tks_cons (f : Int → Nat) (p : ByteArray × Int) (d : DIR) : tks f (p :: d) = f p.2 + tks f d := by simp [tks]
theorem costs_tks (sz : Int → Nat) {d : DIR} (hn : (d.map (·.1)).Nodup) : costs sz d = tks (fun k => (sz k + 63) / 64) d := by
  rw [costs, tks, List.map_map]
  congr 1
  refine List.map_congr_left fun p hp => ?_
  show cost sz d p.1 = _
  rw [cost, asc_mem hn (x := p.1) (u := p.2) hp]; rfl
theorem DS.used_tks {s : DS} (h : s.Ok) : s.used = tks (fun k => (flen s.fs k + 63) / 64) s.dir := costs_tks _ h.nd
theorem tks_del (f : Int → Nat) (x : ByteArray) : ∀ d : DIR, tks f (del x d) + ((asc x d).map f).getD 0 = tks f d
  | [] => rfl
  | (a, u) :: d => by
    rw [del, asc]
    by_cases h : x = a
    · rw [if_pos h, if_pos h, tks_cons]; show _ + f u = _; simp only []; omega
    · rw [if_neg h, if_neg h, tks_cons, tks_cons]
      have := tks_del f x d
      simp only []; omega
theorem tks_put (f : Int → Nat) (x : ByteArray) (k : Int) : ∀ d : DIR, tks f (put x k d) ≤ tks f d + f k
  | [] => by simp [put, tks]
  | (a, u) :: d => by
    rw [put]
    by_cases h : x = a
    · rw [if_pos h, tks_cons, tks_cons]; simp only []; omega
    · rw [if_neg h, tks_cons, tks_cons]
      have := tks_put f x k d
      simp only []; omega
theorem tks_congr {f g : Int → Nat} {d : DIR} (h : ∀ p, p ∈ d → f p.2 = g p.2) : tks f d = tks g d := by
  rw [tks, tks, List.map_congr_left h]
theorem tks_one {f g : Int → Nat} {k : Int} (h : ∀ j, j ≠ k → f j = g j) : ∀ {d : DIR}, (d.map (·.2)).Nodup → ∀ x, asc x d = some k → tks f d + g k = tks g d + f k
  | [], _, x, hx => by cases hx
  | (a, u) :: d, hn, x, hx => by
    obtain ⟨h1, h2⟩ := List.nodup_cons.1 (by simpa using hn : (u :: d.map (·.2)).Nodup)
    rw [asc] at hx
    rw [tks_cons, tks_cons]
    by_cases hxa : x = a
    · rw [if_pos hxa] at hx
      cases hx
      have : tks f d = tks g d := tks_congr fun p hp => h p.2 fun e => h1 (List.mem_map.2 ⟨p, hp, e⟩)
      simp only []; omega
    · rw [if_neg hxa] at hx
      have hk : k ∈ d.map (·.2) := List.mem_map.2 ⟨_, asc_some hx, rfl⟩
      have := h u fun e => h1 (e ▸ hk)
      have := tks_one h h2 x hx
      simp only []; omega
theorem flen_set (fs : List FILE) (k : Nat) (f : FILE) (j : Int) (hj : 0 ≤ j) (hk : k < fs.length) : flen (fs.set k f) j = if j.toNat = k then f.1.length else flen fs j := by
  rw [flen, flen, List.getD_eq_getElem?_getD, List.getD_eq_getElem?_getD]
  by_cases e : j.toNat = k
  · rw [if_pos e, e, List.getElem?_set_self hk]; rfl
  · rw [if_neg e, List.getElem?_set_ne (fun h => e h.symm)]
def DS.Fits (r : Int) (s : DS) : Prop := s.rm = r ∧ (s.used : Int) ≤ r
section
variable {s : DS} {r : Int}
theorem DS.Fits.did (h : s.Fits r) : s.did.Fits r := h
theorem DS.Fits.fuse (h : s.Fits r) (n : Int) : (s.fuse n).2.Fits r := by
  rw [DS.fuse]; split
  · exact h
  · exact h
theorem DS.Fits.delete (h : s.Fits r) (hi : s.Inv) (nm : ByteArray) : (s.delete nm).2.Fits r := by
  have hi2 := hi.delete nm
  rw [DS.delete] at hi2 ⊢; split
  · exact h
  · rename_i hd
    split
    · exact h
    · rename_i hn
      rw [if_neg hd, if_neg hn] at hi2
      refine ⟨h.1, ?_⟩
      have h2 := h.2
      rw [DS.used_tks hi.ok] at h2
      rw [DS.used_tks hi2.ok]
      show ((tks (fun k => (Go.Proofs.YtjjhddjllpihaaaGreatDoor.flen s.fs k + 63) / 64) (trn (nm, ⟨#[]⟩, 0) s.dir) : Nat) : Int) ≤ r
      rw [trn_eq, if_pos rfl]
      split
      · exact h2
      · have := tks_del (fun k => (Go.Proofs.YtjjhddjllpihaaaGreatDoor.flen s.fs k + 63) / 64) nm s.dir
        have e : del ((nm, (⟨#[]⟩ : ByteArray), (0 : Int)) : CHG).1 s.dir = del nm s.dir := rfl
        rw [e]; omega
theorem DS.Fits.create (h : s.Fits r) (hi : s.Inv) (nm : ByteArray) : (s.create nm).2.Fits r := by
  have hi2 := hi.create nm
  rw [DS.create] at hi2 ⊢; split
  · exact h
  · rename_i h1; split
    · exact h
    · rename_i h2; split
      · exact h
      · rename_i h3; split
        · exact h
        · rename_i h4
          rw [if_neg h1, if_neg h2, if_neg h3, if_neg h4] at hi2
          refine ⟨h.1, ?_⟩
          have hu := h.2
          rw [DS.used_tks hi.ok] at hu
          rw [DS.used_tks hi2.ok]
          have hrn : nm ≠ ⟨#[]⟩ := by
            cases hq : rightN nm with
            | false => exact absurd hq h2
            | true => rw [rightN] at hq; exact (of_decide_eq_true hq).1
          show ((tks (fun k => (Go.Proofs.YtjjhddjllpihaaaGreatDoor.flen (s.fs ++ [([], [])]) k + 63) / 64) (trn (⟨#[]⟩, nm, (s.fs.length : Int)) s.dir) : Nat) : Int) ≤ r
          rw [trn_eq, if_neg hrn, if_pos rfl]
          have a1 := tks_put (fun k => (Go.Proofs.YtjjhddjllpihaaaGreatDoor.flen (s.fs ++ [([], [])]) k + 63) / 64) nm (s.fs.length : Int) s.dir
          have a2 : tks (fun k => (Go.Proofs.YtjjhddjllpihaaaGreatDoor.flen (s.fs ++ [([], [])]) k + 63) / 64) s.dir = tks (fun k => (Go.Proofs.YtjjhddjllpihaaaGreatDoor.flen s.fs k + 63) / 64) s.dir := tks_congr fun p hp => by
            have := hi.ok.dir p hp
            rw [Go.Proofs.YtjjhddjllpihaaaGreatDoor.flen, Go.Proofs.YtjjhddjllpihaaaGreatDoor.flen, List.getD_eq_getElem?_getD, List.getD_eq_getElem?_getD, List.getElem?_append_left Zz]
          have a3 : (Go.Proofs.YtjjhddjllpihaaaGreatDoor.flen (s.fs ++ [([], [])]) (s.fs.length : Int) + 63) / 64 = 0 := by
            rw [Go.Proofs.YtjjhddjllpihaaaGreatDoor.flen, List.getD_eq_getElem?_getD, Int.toNat_natCast, List.getElem?_append_right (Nat.le_refl _), Nat.sub_self]; rfl
          simp only [a3] at a1
          have e : put ((⟨#[]⟩, nm, (s.fs.length : Int)) : CHG).2.1 ((⟨#[]⟩, nm, (s.fs.length : Int)) : CHG).2.2 s.dir = put nm (s.fs.length : Int) s.dir := rfl
          rw [e]; omega
theorem fits_set {f : FILE} {k : Int} {nm : ByteArray} (hi : s.Inv) (ha : asc nm s.dir = some k) (h : ((s.used + (f.1.length + 63) / 64 : Nat) : Int) ≤ r + (((Go.Proofs.YtjjhddjllpihaaaGreatDoor.flen s.fs k + 63) / 64 : Nat) : Int)) : ((tks (fun j => (Go.Proofs.YtjjhddjllpihaaaGreatDoor.flen (s.fs.set k.toNat f) j + 63) / 64) s.dir : Nat) : Int) ≤ r := by
  obtain ⟨hk, hk2, _⟩ := hi.ok.dir _ (asc_some ha)
  have hk : 0 ≤ k := hk
  have hk2 : k < s.fs.length := hk2
  rw [DS.used_tks hi.ok] at h
  have hg : tks (fun j => (Go.Proofs.YtjjhddjllpihaaaGreatDoor.flen (s.fs.set k.toNat f) j + 63) / 64) s.dir = tks (fun j => if j = k then (f.1.length + 63) / 64 else (Go.Proofs.YtjjhddjllpihaaaGreatDoor.flen s.fs j + 63) / 64) s.dir := tks_congr fun p hp => by
    have hp0 := (hi.ok.dir p hp).1
    rw [flen_set _ _ _ _ hp0 Zz]
    by_cases e : p.2 = k
    · rw [if_pos (by rw [e]), if_pos e]
    · rw [if_neg Zz, if_neg e]
  rw [hg]
  have := tks_one (f := fun j => if j = k then (f.1.length + 63) / 64 else (Go.Proofs.YtjjhddjllpihaaaGreatDoor.flen s.fs j + 63) / 64) (g := fun j => (Go.Proofs.YtjjhddjllpihaaaGreatDoor.flen s.fs j + 63) / 64) (k := k) (fun j hj => if_neg hj) hi.vals nm ha
  simp only [if_true] at this
  omega
theorem DS.Fits.sync (h : s.Fits r) (hi : s.Inv) (nm : ByteArray) : (s.sync nm).2.Fits r := by
  have hi2 := hi.sync nm
  rw [DS.sync] at hi2 ⊢; split
  · exact h
  · rename_i h1
    rw [if_neg h1] at hi2
    cases ha : asc nm s.dir with
    | none => exact h
    | some k =>
      rw [ha] at hi2
      refine ⟨h.1, ?_⟩
      rw [DS.used_tks hi2.ok]
      refine fits_set (k := k) hi ha ?_
      have := h.2
      have e : (fat s.fs k).1.length = Go.Proofs.YtjjhddjllpihaaaGreatDoor.flen s.fs k := rfl
      simp only [e]; omega
theorem DS.Fits.write (h : s.Fits r) (hi : s.Inv) (nm : ByteArray) (a : Int) (x : List UInt8) : (s.write nm a x).2.Fits r := by
  have hi2 := hi.write nm a x
  rw [DS.write] at hi2 ⊢; split
  · exact h
  · rename_i h1
    rw [if_neg h1] at hi2
    cases ha : asc nm s.dir with
    | none => exact h
    | some k =>
      rw [ha] at hi2
      simp only at hi2 ⊢
      split
      · exact h
      · rename_i h2
        rw [if_neg h2] at hi2
        split
        · exact h
        · rename_i h3
          rw [if_neg h3] at hi2
          split
          · exact h
          · rename_i h4
            rw [if_neg h4] at hi2
            refine ⟨h.1, ?_⟩
            rw [DS.used_tks hi2.ok]
            refine fits_set (k := k) hi ha ?_
            have hr := h.1
            have e : (fat s.fs k).1.length = Go.Proofs.YtjjhddjllpihaaaGreatDoor.flen s.fs k := rfl
            simp only [secs] at h4
            rw [e] at h4 h2
            simp only []
            rw [wrt_len _ _ _ (by rw [e]; omega), e]
            omega
end
theorem sortB_perm {a b : List ByteArray} (h : a.Perm b) : sortB a = sortB b := by
  rw [sortB, sortB]
  congr 1
  have hp : (a.map fun s => s.data.toList).Perm (b.map fun s => s.data.toList) := h.map _
  have hs := fun l : List (List UInt8) => List.pairwise_mergeSort (le := fun x y : List UInt8 => decide (x ≤ y)) (by intro a b c; simp only [decide_eq_true_eq]; exact fun h1 h2 => List.le_trans h1 h2) (by intro a b; simp only [Bool.or_eq_true, decide_eq_true_eq]; exact List.le_total a b) l
  refine List.Perm.eq_of_pairwise (le := fun x y => decide (x ≤ y) = true) ?_ (hs _) (hs _) (((List.mergeSort_perm _ _).trans hp).trans (List.mergeSort_perm _ _).symm)
  intro x y _ _ h1 h2
  exact List.le_antisymm (of_decide_eq_true h1) (of_decide_eq_true h2)
def KEn : Kd (ByteArray × Int) := Kd.plain 2 (fun x => [.string x.1, .int .i64 x.2]) (fun _ => True) (fun _ => rfl) (fun _ u hu => by simp at hu; rcases hu with rfl | rfl <;> rfl)
def isNm (s : ByteArray) : Bool := decide (1 ≤ s.size ∧ s.size ≤ 64)
def rfind (nm : ByteArray) (l : DIR) : Int := (asc nm l).getD (-1)
def sless (a b : ByteArray) : Bool := Op.bytesLess a.data.toList b.data.toList
def rwo (nm : ByteArray) (l : DIR) : DIR := l.filter fun p => decide (p.1 ≠ nm)
def rins (e : ByteArray × Int) (l : DIR) : DIR := l.takeWhile (fun p => sless p.1 e.1) ++ [e] ++ l.dropWhile (fun p => sless p.1 e.1)
def rwith (e : ByteArray × Int) (l : DIR) : DIR := rins e (rwo e.1 l)
def lput (n : Int) (l : List Int) : List Int := if (l.dropWhile fun x => decide (x < n)).head? = some n then l else l.takeWhile (fun x => decide (x < n)) ++ [n] ++ l.dropWhile (fun x => decide (x < n))
def rapply (c : CHG) (l : DIR) : DIR := (fun l' : DIR => if c.2.1 = ⟨#[]⟩ then l' else rwith (c.2.1, c.2.2) l') (if c.1 = ⟨#[]⟩ then l else rwo c.1 l)
abbrev RF := List UInt8 × List UInt8 × List Int
structure RS where
  rm : Int
  fs : List RF
  dir : DIR
  fx : DIR
  chs : List CHG
  has : Bool
  left : Int
def KRp : Kd Nat := Kd.plain 1 (fun b => [.pointer (some ⟨b, 0, none⟩)]) (fun _ => True) (fun _ => rfl) (fun _ u hu => by simp at hu; subst hu; rfl)
abbrev rkL (rm : Int) (vF vD vX vC : Value) (has : Bool) (left : Int) : List Value := [.int .i64 rm, vF, vD, vX, vC, .bool has, .int .i64 left]
structure FlK (col : Nat → Nat) (w : World) (k p : Nat) (v1 v2 v3 : Value) (f : RF) : Prop where
  B : Blk w p [v1, v2, v3] 140
  c : col p = 4 + 3 * k
  M1 : Mine KB 5 (fun q => col q = 5 + 3 * k) 0 0 w v1 f.1
  M2 : Mine KB 5 (fun q => col q = 6 + 3 * k) 0 0 w v2 f.2.1
  M3 : Mine KI 3 (fun q => col q = 3) 0 0 w v3 f.2.2
structure RkB (col : Nat → Nat) (w : World) (x : Nat) (vF vD vX vC : Value) (pt : List Nat) (t : RS) : Prop where
  B : Blk w x (rkL t.rm vF vD vX vC t.has t.left) 118
  F : Mine KRp 138 (fun q => col q = 2) 0 0 w vF pt
  D : Mine KEn 197 (fun q => col q = 3) 0 0 w vD t.dir
  X : Mine KEn 197 (fun q => col q = 3) 0 0 w vX t.fx
  C : Mine KCh 193 (fun q => col q = 3) 0 0 w vC t.chs
  cx : col x = 1
  lt : ∀ q, col q ≠ 0 → q < w.heap.size
  pl : pt.length = t.fs.length
  fl : ∀ k p f, pt[k]? = some p → t.fs[k]? = some f → ∃ v1 v2 v3, FlK col w k p v1 v2 v3 f
def RkR (col : Nat → Nat) (w : World) (x : Nat) (t : RS) : Prop := ∃ vF vD vX vC pt, RkB col w x vF vD vX vC pt t
theorem RkB.r {col : Nat → Nat} {w : World} {x : Nat} {vF vD vX vC : Value} {pt : List Nat} {t : RS} (h : RkB col w x vF vD vX vC pt t) : RkR col w x t := ⟨vF, vD, vX, vC, pt, h⟩
structure RkP (V : Nat → Prop) (col : Nat → Nat) (w : World) (x : Nat) (vF vD vX vC : Value) (pt : List Nat) (t : RS) : Prop where
  B : ¬ V 1 → Blk w x (rkL t.rm vF vD vX vC t.has t.left) 118
  F : ¬ V 2 → Mine KRp 138 (fun q => col q = 2) 0 0 w vF pt
  D : ¬ V 3 → Mine KEn 197 (fun q => col q = 3) 0 0 w vD t.dir
  X : ¬ V 3 → Mine KEn 197 (fun q => col q = 3) 0 0 w vX t.fx
  C : ¬ V 3 → Mine KCh 193 (fun q => col q = 3) 0 0 w vC t.chs
  cx : col x = 1
  pl : pt.length = t.fs.length
  fl : ∀ k p f, pt[k]? = some p → t.fs[k]? = some f → ¬ V 3 → (∀ j, 4 + 3 * k ≤ j → j ≤ 6 + 3 * k → ¬ V j) → ∃ v1 v2 v3, FlK col w k p v1 v2 v3 f
section
variable {col col' : Nat → Nat} {w w' : World} {x : Nat} {vF vD vX vC : Value} {pt : List Nat} {t : RS}
theorem colr {α : Type} {K : Kd α} {e v0 : Nat} {v : Value} {xs : List α} (h : Mine K e (fun q => col q = v0) 0 0 w v xs) {T : Nat → Prop} (y : Ext T w w') (hc : ∀ q, q < w.heap.size → col' q = col q) (hT : ∀ q, q < w.heap.size → T q → col q ≠ v0) : Mine K e (fun q => col' q = v0) 0 0 w' v xs :=
  ((h.mono (T := fun q => col' q = v0 ∧ q < w.heap.size) (fun q hq h => ⟨(hc q hq).trans h, hq⟩)).ext y Zz (fun q hq ht => hT q hq.2 ht (by rw [← hc q hq.2]; exact hq.1))).mono (fun _ _ h => h.1)
theorem FlK.ext {k p : Nat} {v1 v2 v3 : Value} {f : RF} (h : FlK col w k p v1 v2 v3 f) {T : Nat → Prop} (y : Ext T w w') (hc : ∀ q, q < w.heap.size → col' q = col q) (hT : ∀ q, q < w.heap.size → T q → col q ≠ 3 ∧ col q ≠ 4 + 3 * k ∧ col q ≠ 5 + 3 * k ∧ col q ≠ 6 + 3 * k) : FlK col' w' k p v1 v2 v3 f :=
  ⟨h.B.ext y fun ht => (hT p h.B.lt ht).2.1 h.c, (hc p h.B.lt).trans h.c, colr h.M1 y hc fun q hq ht => (hT q hq ht).2.2.1, colr h.M2 y hc fun q hq ht => (hT q hq ht).2.2.2, colr h.M3 y hc fun q hq ht => (hT q hq ht).1⟩
theorem RkB.part (h : RkB col w x vF vD vX vC pt t) (V : Nat → Prop) {T : Nat → Prop} (y : Ext T w w') (hc : ∀ q, q < w.heap.size → col' q = col q) (hT : ∀ q, q < w.heap.size → T q → V (col q)) : RkP V col' w' x vF vD vX vC pt t := by
  have hk : ∀ v, ¬ V v → ∀ q, q < w.heap.size → T q → col q ≠ v := fun v hv q hq ht e => hv (by have := hT q hq ht; rwa [e] at this)
  refine ⟨fun v => h.B.ext y fun ht => hk 1 v _ h.B.lt ht h.cx, fun v => colr h.F y hc (hk 2 v), fun v => colr h.D y hc (hk 3 v), fun v => colr h.X y hc (hk 3 v), fun v => colr h.C y hc (hk 3 v), (hc x h.B.lt).trans h.cx, h.pl, fun k p f h1 h2 v3 hv => ?_⟩
  obtain ⟨a1, a2, a3, hf⟩ := h.fl k p f h1 h2
  exact ⟨a1, a2, a3, hf.ext y hc fun q hq ht => ⟨hk 3 v3 q hq ht, hk _ (hv _ Zz Zz) q hq ht, hk _ (hv _ Zz Zz) q hq ht, hk _ (hv _ Zz Zz) q hq ht⟩⟩
theorem RkB.ext (h : RkB col w x vF vD vX vC pt t) {T : Nat → Prop} (y : Ext T w w') (hT : ∀ q, col q ≠ 0 → ¬ T q) : RkB col w' x vF vD vX vC pt t := by
  have p := h.part (fun v => v = 0) y (fun _ _ => rfl) (fun q _ t => Classical.byContradiction fun e => hT q e t)
  exact ⟨p.B (by decide), p.F (by decide), p.D (by decide), p.X (by decide), p.C (by decide), p.cx, fun q hq => Nat.lt_of_lt_of_le (h.lt q hq) y.size, p.pl, fun k q f h1 h2 => p.fl k q f h1 h2 (by decide) (fun j _ _ => by omega)⟩
theorem RkB.keep (h : RkB col w x vF vD vX vC pt t) (y : Keep w w') : RkB col w' x vF vD vX vC pt t := h.ext y fun _ _ t => t
theorem RkR.ext (h : RkR col w x t) {T : Nat → Prop} (y : Ext T w w') (hT : ∀ q, col q ≠ 0 → ¬ T q) : RkR col w' x t := let ⟨vF, vD, vX, vC, pt, h⟩ := h; ⟨vF, vD, vX, vC, pt, h.ext y hT⟩
theorem RkR.keep (h : RkR col w x t) (y : Keep w w') : RkR col w' x t := h.ext y fun _ _ t => t
theorem RkR.lt (h : RkR col w x t) : ∀ q, col q ≠ 0 → q < w.heap.size := let ⟨_, _, _, _, _, h⟩ := h; h.lt
theorem RkR.cx (h : RkR col w x t) : col x = 1 := let ⟨_, _, _, _, _, h⟩ := h; h.cx
end
section
variable {col : Nat → Nat} {w w' : World} {x : Nat} {vF vD vX vC : Value} {pt : List Nat} {t : RS}
end
def RS.down (t : RS) : Bool := t.has && decide (t.left = 0)
def RS.did (t : RS) : RS := { t with left := if t.has = true then t.left - 1 else t.left }
structure RS.Ok (t : RS) : Prop where
  rm : 1 ≤ t.rm ∧ t.rm ≤ 1048576
  dir : ∀ p, p ∈ t.dir → 0 ≤ p.2 ∧ p.2 < t.fs.length
  fx : ∀ p, p ∈ t.fx → 0 ≤ p.2 ∧ p.2 < t.fs.length
  chs : ∀ c, c ∈ t.chs → c.1 = ⟨#[]⟩ → 0 ≤ c.2.2 ∧ c.2.2 < t.fs.length
  fs : ∀ f, f ∈ t.fs → f.1.length ≤ 1048576 ∧ f.2.1.length ≤ 1048576 ∧ f.2.2.length ≤ 16384 ∧ ∀ s, s ∈ f.2.2 → 0 ≤ s ∧ s < 16384
  few : t.dir.length ≤ 256
  fewx : t.fx.length ≤ 256
  many : t.fs.length ≤ 50000 ∧ t.chs.length ≤ 50000
  left : 0 ≤ t.left ∧ t.left ≤ 1048576
def RS.note (c : CHG) (t : RS) : RS := { t with dir := rapply c t.dir, chs := t.chs ++ [c] }
def RS.delete (nm : ByteArray) (t : RS) : Int × RS := if t.down = true then (54, t) else if rfind nm t.dir < 0 then (52, t) else (0, (t.note (nm, ⟨#[]⟩, 0)).did)
def RS.fuse (n : Int) (t : RS) : Int × RS := if n < 0 ∨ 1048576 < n then (5, t) else (0, { t with has := true, left := n })
def RS.create (nm : ByteArray) (t : RS) : Int × RS := if t.down = true then (54, t) else if isNm nm = false then (51, t) else if 0 ≤ rfind nm t.dir then (50, t) else if 256 ≤ t.dir.length then (3, t)
  else (0, (({ t with fs := t.fs ++ [([], [], [])] } : RS).note (⟨#[]⟩, nm, (t.fs.length : Int))).did)
def rsec (n : Nat) : Nat := (n + 63) / 64
def rfat (t : RS) (k : Int) : RF := t.fs.getD k.toNat ([], [], [])
theorem rfat_at {t : RS} {k : Int} {f : RF} (h : t.fs[k.toNat]? = some f) : rfat t k = f := by rw [rfat, List.getD_eq_getElem?_getD, h]; rfl
theorem RkB.at_ {col : Nat → Nat} {x : Nat} {vF vD vX vC : Value} {pt : List Nat} {t : RS} {w : World} (h : RkB col w x vF vD vX vC pt t) (hok : t.Ok) {k : Int} (hk : 0 ≤ k ∧ k < t.fs.length) : ∃ p f v1 v2 v3, pt[k.toNat]? = some p ∧ t.fs[k.toNat]? = some f ∧ FlK col w k.toNat p v1 v2 v3 f := by
  have hpl := h.pl
  obtain ⟨p, hp⟩ : ∃ p, pt[k.toNat]? = some p := ⟨pt[k.toNat]'Zz, List.getElem?_eq_getElem _⟩
  obtain ⟨f, hf⟩ : ∃ f, t.fs[k.toNat]? = some f := ⟨t.fs[k.toNat]'Zz, List.getElem?_eq_getElem _⟩
  obtain ⟨v1, v2, v3, hfl⟩ := h.fl _ p f hp hf
  exact ⟨p, f, v1, v2, v3, hp, hf, hfl⟩
def RS.sizeOf (nm : ByteArray) (t : RS) : Int × Int := if rfind nm t.dir < 0 then (0, 52) else (((rfat t (rfind nm t.dir)).1.length : Int), 0)
def RS.read (nm : ByteArray) (a n : Int) (t : RS) : List UInt8 × Int := if rfind nm t.dir < 0 then ([], 52) else if a < 0 ∨ n < 0 ∨ ((rfat t (rfind nm t.dir)).1.length : Int) < a ∨ ((rfat t (rfind nm t.dir)).1.length : Int) - a < n then ([], 5) else (((rfat t (rfind nm t.dir)).1.drop a.toNat).take n.toNat, 0)
def rcost (t : RS) (l : DIR) : Nat := (l.map fun e => rsec (rfat t e.2).1.length).sum
def RS.used (t : RS) : Nat := rcost t t.dir
def RS.sync (nm : ByteArray) (t : RS) : Int × RS := if t.down = true then (54, t) else if rfind nm t.dir < 0 then (52, t) else (0, ({ t with fs := t.fs.set (rfind nm t.dir).toNat ((rfat t (rfind nm t.dir)).1, (rfat t (rfind nm t.dir)).1, []) } : RS).did)
def rpad (b : List UInt8) (a n : Nat) : List UInt8 := b ++ List.replicate (max b.length (a + n) - b.length) 0
def rput (b : List UInt8) (a : Nat) (y : List UInt8) : List UInt8 := b.take a ++ y ++ b.drop (a + y.length)
def rwrt (b : List UInt8) (a : Nat) (y : List UInt8) : List UInt8 := rput (rpad b a y.length) a y
def rmark : Nat → Nat → List Int → List Int
  | _, 0, l => l
  | s, n + 1, l => rmark (s + 1) n (lput (s : Int) l)
def rtouch (a n : Nat) : Nat := if n = 0 then 0 else rsec (a + n) - a / 64
def RS.write (nm : ByteArray) (a : Int) (y : List UInt8) (t : RS) : Int × RS := if t.down = true then (54, t) else if rfind nm t.dir < 0 then (52, t)
  else if a < 0 ∨ ((rfat t (rfind nm t.dir)).1.length : Int) < a then (5, t) else if 1048576 - a < (y.length : Int) then (2, t)
  else if t.rm < (t.used : Int) - (rsec (rfat t (rfind nm t.dir)).1.length : Int) + (rsec (max (rfat t (rfind nm t.dir)).1.length (a.toNat + y.length)) : Int) then (53, t)
  else (0, ({ t with fs := t.fs.set (rfind nm t.dir).toNat (rwrt (rfat t (rfind nm t.dir)).1 a.toNat y, (rfat t (rfind nm t.dir)).2.1, rmark (a.toNat / 64) (rtouch a.toNat y.length) (rfat t (rfind nm t.dir)).2.2) } : RS).did)
def nfold (l : List Int) (vs : List Int) : List Int := vs.foldl (fun l v => lput v l) l
def rnew (l : List CHG) : List Int := (l.filter fun c => decide (c.1 = ⟨#[]⟩)).map fun c => c.2.2
def RS.near (t : RS) : List Int := nfold (nfold [] (t.fx.map (·.2))) (rnew t.chs)
def rls (t : RS) (l : List Int) : Nat := (l.map fun k => (rfat t k).2.2.length).sum
def rcn (t : RS) (l : List Int) : Nat := (l.map fun k => if (rfat t k).1.length ≠ (rfat t k).2.1.length then 1 else 0).sum
def RS.loose (t : RS) : Nat × Nat × Nat := (t.chs.length, rls t t.near, rcn t t.near)
theorem lput_mem {k x : Int} {l : List Int} (h : x ∈ lput k l) : x = k ∨ x ∈ l := by
  rw [lput] at h
  split at h
  · exact .inr h
  · rcases List.mem_append.1 h with h | h
    · rcases List.mem_append.1 h with h | h
      · exact .inr ((List.takeWhile_sublist _).subset h)
      · exact .inl (List.mem_singleton.1 h)
    · exact .inr ((List.dropWhile_sublist _).subset h)
theorem nfold_mem {x : Int} : ∀ {vs l : List Int}, x ∈ nfold l vs → x ∈ l ∨ x ∈ vs
  | [], _, h => .inl h
  | v :: vs, l, h => by
    rcases nfold_mem (vs := vs) (l := lput v l) h with h | h
    · rcases lput_mem h with h | h
      · exact .inr (by rw [h]; exact List.mem_cons_self)
      · exact .inl h
    · exact .inr (List.mem_cons_of_mem _ h)
theorem rnear_ok {t : RS} (hok : t.Ok) {k : Int} (h : k ∈ t.near) : 0 ≤ k ∧ k < t.fs.length := by
  rcases nfold_mem h with h | h
  · rcases nfold_mem h with h | h
    · cases h
    · obtain ⟨p, hp, rfl⟩ := List.mem_map.1 h
      exact hok.fx p hp
  · obtain ⟨c, hc, rfl⟩ := List.mem_map.1 h
    obtain ⟨h1, h2⟩ := List.mem_filter.1 hc
    exact hok.chs c h1 (by simpa using h2)
theorem rbl_eq : ∀ (x y : List UInt8), Op.bytesLess x y = decide (x < y)
  | [], [] => by simp [Op.bytesLess]
  | _ :: _, [] => by simp [Op.bytesLess]
  | [], _ :: _ => by simp [Op.bytesLess]
  | a :: x, b :: y => by
    have h : (a :: x < b :: y) ↔ (a < b ∨ a = b ∧ x < y) := List.cons_lt_cons_iff
    rw [Op.bytesLess, rbl_eq x y, show decide (a :: x < b :: y) = decide (a < b ∨ a = b ∧ x < y) from decide_eq_decide.2 h, Bool.decide_or, Bool.decide_and]; rfl
theorem sless_lt (a b : ByteArray) : sless a b = decide (a.data.toList < b.data.toList) := rbl_eq _ _
theorem sl_irr (a : ByteArray) : sless a a = false := by rw [sless_lt]; exact decide_eq_false (List.lt_irrefl _)
theorem sl_trans {a b c : ByteArray} (h1 : sless a b = true) (h2 : sless b c = true) : sless a c = true := by
  rw [sless_lt] at *
  exact decide_eq_true (List.lt_trans (of_decide_eq_true h1) (of_decide_eq_true h2))
theorem sl_tri {a b : ByteArray} (h1 : sless a b = false) (h2 : a ≠ b) : sless b a = true := by
  rw [sless_lt] at *
  have h3 : ¬ a.data.toList < b.data.toList := of_decide_eq_false h1
  refine decide_eq_true ?_
  rcases Classical.em (b.data.toList < a.data.toList) with h | h
  · exact h
  · exfalso
    have e : a.data.toList = b.data.toList := List.le_antisymm (List.not_lt.1 h) (List.not_lt.1 h3)
    apply h2
    cases a with | mk a => cases b with | mk b => exact congrArg _ (Array.toList_inj.1 e)
def Srtd (l : DIR) : Prop := l.Pairwise fun p q => sless p.1 q.1 = true
theorem Srtd.nd {l : DIR} (h : Srtd l) : (l.map (·.1)).Nodup := by
  rw [List.Nodup, List.pairwise_map]
  exact h.imp fun {p q} hpq e => by rw [e, sl_irr] at hpq; exact absurd hpq (by decide)
theorem Srtd.rwo {l : DIR} (h : Srtd l) (nm : ByteArray) : Srtd (rwo nm l) := h.sublist List.filter_sublist
theorem asc_rwo (nm x : ByteArray) : ∀ l : DIR, asc x (rwo nm l) = if x = nm then none else asc x l
  | [] => by simp [rwo, asc]
  | (a, u) :: l => by
    have ih := asc_rwo nm x l
    by_cases ha : a = nm
    · rw [rwo, List.filter_cons_of_neg (by simpa using ha), ← rwo, ih, asc]
      by_cases hx : x = nm
      · rw [if_pos hx, if_pos hx]
      · rw [if_neg hx, if_neg hx, if_neg (by rw [ha]; exact hx)]
    · rw [rwo, List.filter_cons_of_pos (by simpa using ha), ← rwo, asc, ih, asc]
      by_cases hx : x = nm
      · rw [if_pos hx, if_pos hx, if_neg (by rw [hx]; exact fun e => ha e.symm)]
      · rw [if_neg hx, if_neg hx]
theorem asc_ins (e : ByteArray × Int) (x : ByteArray) : ∀ l : DIR, e.1 ∉ l.map (·.1) → asc x (rins e l) = if x = e.1 then some e.2 else asc x l
  | [], _ => by simp [rins, asc]
  | (a, u) :: l, h => by
    have ha : e.1 ≠ a := fun q => h (by rw [q]; exact List.mem_cons_self)
    have ih := asc_ins e x l (fun q => h (List.mem_cons_of_mem _ q))
    by_cases hs : sless a e.1 = true
    · have e1 : rins e ((a, u) :: l) = (a, u) :: rins e l := by simp [rins, hs]
      rw [e1, asc, ih, asc]
      by_cases hx : x = e.1
      · rw [if_pos hx, if_pos hx, if_neg (by rw [hx]; exact ha)]
      · rw [if_neg hx, if_neg hx]
    · have e1 : rins e ((a, u) :: l) = e :: (a, u) :: l := by simp [rins, hs]
      rw [e1]; rfl
theorem Srtd.ins {e : ByteArray × Int} : ∀ {l : DIR}, Srtd l → e.1 ∉ l.map (·.1) → Srtd (rins e l)
  | [], _, _ => by simp [rins, Srtd]
  | (a, u) :: l, h, hn => by
    have ha : a ≠ e.1 := fun q => hn (by rw [← q]; exact List.mem_cons_self)
    obtain ⟨h1, h2⟩ := List.pairwise_cons.1 h
    by_cases hs : sless a e.1 = true
    · have e1 : rins e ((a, u) :: l) = (a, u) :: rins e l := by simp [rins, hs]
      rw [e1]
      refine List.pairwise_cons.2 ⟨fun q hq => ?_, Srtd.ins h2 (fun q => hn (List.mem_cons_of_mem _ q))⟩
      have hq' : q = e ∨ q ∈ l := by
        rcases List.mem_append.1 hq with hq | hq
        · rcases List.mem_append.1 hq with hq | hq
          · exact .inr ((List.takeWhile_sublist _).subset hq)
          · exact .inl (List.mem_singleton.1 hq)
        · exact .inr ((List.dropWhile_sublist _).subset hq)
      rcases hq' with rfl | hq'
      · exact hs
      · exact h1 q hq'
    · have e1 : rins e ((a, u) :: l) = e :: (a, u) :: l := by simp [rins, hs]
      rw [e1]
      have hea : sless e.1 a = true := sl_tri (by simpa using hs) ha
      refine List.pairwise_cons.2 ⟨fun q hq => ?_, h⟩
      rcases List.mem_cons.1 hq with rfl | hq
      · exact hea
      · exact sl_trans hea (h1 q hq)
theorem rwo_out (nm : ByteArray) (l : DIR) : nm ∉ (rwo nm l).map (·.1) := fun h => by
  obtain ⟨p, hp, e⟩ := List.mem_map.1 h
  have := (List.mem_filter.1 hp).2
  simp at this
  exact this e
def DirT (d e : DIR) : Prop := (∀ x, asc x e = asc x d) ∧ Srtd e
theorem DirT.nil : DirT [] [] := ⟨fun _ => rfl, List.Pairwise.nil⟩
theorem DirT.del {d e : DIR} (h : DirT d e) (hd : (d.map (·.1)).Nodup) (nm : ByteArray) : DirT (del nm d) (rwo nm e) := ⟨fun x => by rw [asc_rwo, asc_del hd, h.1], h.2.rwo nm⟩
theorem DirT.put {d e : DIR} (h : DirT d e) (nm : ByteArray) (k : Int) : DirT (put nm k d) (rwith (nm, k) e) :=
  ⟨fun x => by rw [rwith, asc_ins _ _ _ (rwo_out nm e), asc_rwo, asc_put, h.1]; by_cases hx : x = nm <;> simp [hx], (h.2.rwo nm).ins (rwo_out nm e)⟩
theorem DirT.trn {d e : DIR} (h : DirT d e) (hd : (d.map (·.1)).Nodup) (c : CHG) : DirT (trn c d) (rapply c e) := by
  have h1 : DirT (if c.1 = ⟨#[]⟩ then d else X.del c.1 d) (if c.1 = ⟨#[]⟩ then e else Go.Proofs.YtjjhddjllpihaaaGreatDoor.rwo c.1 e) := by
    split
    · exact h
    · exact h.del hd c.1
  rw [trn_eq, rapply]
  simp only
  split
  · exact h1
  · exact h1.put _ _
abbrev Inc (l : List Int) : Prop := l.Pairwise (· < ·)
theorem inc_ext : ∀ {a b : List Int}, Inc a → Inc b → (∀ x, x ∈ a ↔ x ∈ b) → a = b
  | [], [], _, _, _ => rfl
  | [], y :: b, _, _, h => by have := (h y).2 List.mem_cons_self; cases this
  | x :: a, [], _, _, h => by have := (h x).1 List.mem_cons_self; cases this
  | x :: a, y :: b, ha, hb, h => by
    obtain ⟨a1, a2⟩ := List.pairwise_cons.1 ha
    obtain ⟨b1, b2⟩ := List.pairwise_cons.1 hb
    have hxy : x = y := by
      rcases List.mem_cons.1 ((h x).1 List.mem_cons_self) with e | e
      · exact e
      · rcases List.mem_cons.1 ((h y).2 List.mem_cons_self) with e' | e'
        · exact e'.symm
        · have := b1 x e; have := a1 y e'; omega
    subst hxy
    congr 1
    refine inc_ext a2 b2 fun z => ⟨fun hz => ?_, fun hz => ?_⟩
    · have := a1 z hz
      rcases List.mem_cons.1 ((h z).1 (List.mem_cons_of_mem _ hz)) with e | e
      · omega
      · exact e
    · have := b1 z hz
      rcases List.mem_cons.1 ((h z).2 (List.mem_cons_of_mem _ hz)) with e | e
      · omega
      · exact e
theorem lput_has (k : Int) : ∀ l : List Int, k ∈ lput k l := fun l => by
  rw [lput]
  split
  · rename_i h
    exact (List.dropWhile_sublist _).subset (List.mem_of_mem_head? h)
  · exact List.mem_append_left _ (List.mem_append_right _ List.mem_cons_self)
theorem lput_old {k x : Int} {l : List Int} (h : x ∈ l) : x ∈ lput k l := by
  rw [lput]
  split
  · exact h
  · rw [← List.takeWhile_append_dropWhile (p := fun x : Int => decide (x < k)) (l := l)] at h
    rcases List.mem_append.1 h with h | h
    · exact List.mem_append_left _ (List.mem_append_left _ h)
    · exact List.mem_append_right _ h
theorem lput_iff {k x : Int} {l : List Int} : x ∈ lput k l ↔ x = k ∨ x ∈ l := ⟨lput_mem, fun h => h.elim (fun e => by rw [e]; exact lput_has k l) lput_old⟩
theorem lput_cons_lt {k a : Int} {l : List Int} (h : a < k) : lput k (a :: l) = a :: lput k l := by
  rw [lput, lput]
  have h1 : (a :: l).dropWhile (fun x => decide (x < k)) = l.dropWhile (fun x => decide (x < k)) := by simp [h]
  have h2 : (a :: l).takeWhile (fun x => decide (x < k)) = a :: l.takeWhile (fun x => decide (x < k)) := by simp [h]
  rw [h1, h2]
  split <;> simp
theorem lput_inc {k : Int} : ∀ {l : List Int}, Inc l → Inc (lput k l)
  | [], _ => by simp [lput, Inc]
  | a :: l, h => by
    obtain ⟨h1, h2⟩ := List.pairwise_cons.1 h
    by_cases ha : a < k
    · rw [lput_cons_lt ha]
      refine List.pairwise_cons.2 ⟨fun x hx => ?_, lput_inc h2⟩
      rcases lput_mem hx with e | e
      · rw [e]; exact ha
      · exact h1 x e
    · rw [lput]
      have e1 : (a :: l).dropWhile (fun x => decide (x < k)) = a :: l := by simp [ha]
      have e2 : (a :: l).takeWhile (fun x => decide (x < k)) = [] := by simp [ha]
      rw [e1, e2]
      split
      · exact h
      · rename_i hh
        have hak : a ≠ k := fun e => hh (by rw [e]; rfl)
        refine List.pairwise_cons.2 ⟨fun x hx => ?_, h⟩
        rcases List.mem_cons.1 hx with e | e
        · omega
        · have := h1 x e; omega
theorem nfold_inc : ∀ {vs l : List Int}, Inc l → Inc (nfold l vs)
  | [], _, h => h
  | v :: vs, l, h => nfold_inc (vs := vs) (lput_inc h)
theorem nfold_iff {x : Int} : ∀ {vs l : List Int}, x ∈ nfold l vs ↔ x ∈ l ∨ x ∈ vs
  | [], l => by simp [nfold]
  | v :: vs, l => by
    have ih := nfold_iff (x := x) (vs := vs) (l := lput v l)
    rw [show nfold l (v :: vs) = nfold (lput v l) vs from rfl, ih, lput_iff, List.mem_cons]
    constructor
    · rintro ((h | h) | h)
      · exact .inr (.inl h)
      · exact .inl h
      · exact .inr (.inr h)
    · rintro (h | h | h)
      · exact .inl (.inr h)
      · exact .inl (.inl h)
      · exact .inr h
theorem same_vals {d e : DIR} (h : DirT d e) (hd : (d.map (·.1)).Nodup) (k : Int) : k ∈ e.map (·.2) ↔ k ∈ d.map (·.2) := by
  constructor
  · intro hk
    obtain ⟨p, hp, rfl⟩ := List.mem_map.1 hk
    have := asc_mem h.2.nd (x := p.1) (u := p.2) hp
    rw [h.1] at this
    exact List.mem_map.2 ⟨_, asc_some this, rfl⟩
  · intro hk
    obtain ⟨p, hp, rfl⟩ := List.mem_map.1 hk
    have := asc_mem hd (x := p.1) (u := p.2) hp
    rw [← h.1] at this
    exact List.mem_map.2 ⟨_, asc_some this, rfl⟩
theorem near_tie {s : DS} {t : RS} (hf : DirT s.fx t.fx) (hn : (s.fx.map (·.1)).Nodup) (hc : t.chs = s.chs) : t.near = s.near := by
  refine inc_ext (nfold_inc (nfold_inc List.Pairwise.nil)) (nrs_inc _) fun x => ?_
  rw [RS.near, nfold_iff, nfold_iff, DS.near, nrs_mem, List.mem_append, same_vals hf hn, hc]
  constructor
  · rintro ((h | h) | h)
    · cases h
    · exact .inl h
    · exact .inr h
  · rintro (h | h)
    · exact .inl (.inr h)
    · exact .inr h
structure Lo (l : List Int) (k : Int) (ls : LS) (n : Nat) : Prop where
  inc : Inc l
  mem : ∀ i, i ∈ l ↔ (asc (k, i) ls).getD false = true
  rng : ∀ i, i ∈ l → 0 ≤ i ∧ i < (rsec n : Int)
theorem Lo.spots {l : List Int} {k : Int} {ls : LS} {n : Nat} (h : Lo l k ls n) : l = spotL ls k (rsec n) := by
  refine inc_ext h.inc ?_ fun x => ?_
  · rw [spotL, Inc, List.pairwise_map]
    exact (List.Pairwise.sublist List.filter_sublist List.pairwise_lt_range).imp fun h => by omega
  · rw [spotL, List.mem_map]
    constructor
    · intro hx
      obtain ⟨h1, h2⟩ := h.rng x hx
      refine ⟨x.toNat, List.mem_filter.2 ⟨List.mem_range.2 Zz, ?_⟩, by omega⟩
      have := (h.mem x).1 hx
      rw [show ((x.toNat : Nat) : Int) = x by omega]
      exact this
    · rintro ⟨j, hj, rfl⟩
      exact (h.mem _).2 (List.mem_filter.1 hj).2
theorem Lo.more {l : List Int} {k : Int} {ls : LS} {n n' : Nat} (h : Lo l k ls n) (hn : n ≤ n') : Lo l k ls n' := ⟨h.inc, h.mem, fun i hi => by have := h.rng i hi; rw [rsec] at *; omega⟩
theorem Lo.put {l : List Int} {k : Int} {ls : LS} {n s : Nat} (h : Lo l k ls n) (hs : s < rsec n) : Lo (lput (s : Int) l) k (X.put (k, (s : Int)) true ls) n := by
  refine ⟨lput_inc h.inc, fun i => ?_, fun i hi => ?_⟩
  · rw [lput_iff, asc_put, h.mem]
    by_cases hi : i = (s : Int)
    · simp [hi]
    · have : ¬ ((k, i) = (k, (s : Int))) := fun e => hi (by injection e)
      simp [hi, this]
  · rcases lput_mem hi with e | e
    · omega
    · exact h.rng i e
theorem Lo.mark {k : Int} {n : Nat} : ∀ (c s : Nat) {l : List Int} {ls : LS}, Lo l k ls n → s + c ≤ rsec n → Lo (rmark s c l) k (markL k s c ls) n
  | 0, _, _, _, h, _ => h
  | c + 1, s, l, ls, h, hs => Lo.mark c (s + 1) (h.put (s := s) Zz) Zz
theorem markL_asc {k k' i : Int} (hk : k' ≠ k) : ∀ (c s : Nat) (ls : LS), asc (k', i) (markL k s c ls) = asc (k', i) ls
  | 0, _, _ => rfl
  | c + 1, s, ls => by
    rw [markL, markL_asc hk c, asc_put, if_neg (fun e => hk (by injection e))]
theorem Lo.other {l : List Int} {k k' : Int} {ls : LS} {n : Nat} (h : Lo l k' ls n) (hk : k' ≠ k) (c s : Nat) : Lo l k' (markL k s c ls) n := ⟨h.inc, fun i => by rw [markL_asc hk]; exact h.mem i, h.rng⟩
theorem filt_asc (k : Int) (x : Int × Int) : ∀ ls : LS, asc x (ls.filter fun p => decide (p.1.1 ≠ k)) = if x.1 = k then none else asc x ls
  | [] => by simp [asc]
  | (a, u) :: ls => by
    have ih := filt_asc k x ls
    by_cases ha : a.1 = k
    · rw [List.filter_cons_of_neg (by simpa using ha), ih, asc]
      by_cases hx : x.1 = k
      · rw [if_pos hx, if_pos hx]
      · rw [if_neg hx, if_neg hx, if_neg (fun e => hx (by rw [e]; exact ha))]
    · rw [List.filter_cons_of_pos (by simpa using ha), asc, ih, asc]
      by_cases hx : x.1 = k
      · rw [if_pos hx, if_pos hx, if_neg (fun e => ha (by rw [← e]; exact hx))]
      · rw [if_neg hx, if_neg hx]
theorem Lo.synced (k : Int) (ls : LS) (n : Nat) : Lo [] k (ls.filter fun p => decide (p.1.1 ≠ k)) n := ⟨List.Pairwise.nil, fun i => by rw [filt_asc, if_pos rfl]; simp, fun i h => by cases h⟩
theorem Lo.kept {l : List Int} {k k' : Int} {ls : LS} {n : Nat} (h : Lo l k' ls n) (hk : k' ≠ k) : Lo l k' (ls.filter fun p => decide (p.1.1 ≠ k)) n := ⟨h.inc, fun i => by rw [filt_asc, if_neg hk]; exact h.mem i, h.rng⟩
structure Tie (s : DS) (t : RS) : Prop where
  rm : t.rm = s.rm
  has : t.has = s.fu
  left : t.left = s.lf
  chs : t.chs = s.chs
  len : t.fs.length = s.fs.length
  fs : ∀ (k : Nat) f g, s.fs[k]? = some f → t.fs[k]? = some g → g.1 = f.1 ∧ g.2.1 = f.2 ∧ Lo g.2.2 (k : Int) s.ls f.1.length
  dir : DirT s.dir t.dir
  fx : DirT s.fx t.fx
  out : ∀ p, p ∈ s.ls → p.1.1 < (s.fs.length : Int)
section
variable {s : DS} {t : RS}
theorem Tie.down (h : Tie s t) (hok : s.Ok) : t.down = s.down := by
  have := hok.lf
  rw [RS.down, DS.down, h.has, h.left, show decide (s.lf = 0) = decide (s.lf ≤ 0) from decide_eq_decide.2 Zz]
theorem Tie.find_none (h : Tie s t) {nm : ByteArray} (ha : asc nm s.dir = none) : rfind nm t.dir = -1 := by rw [rfind, h.dir.1, ha]; rfl
theorem Tie.find_some (h : Tie s t) {nm : ByteArray} {k : Int} (ha : asc nm s.dir = some k) : rfind nm t.dir = k := by rw [rfind, h.dir.1, ha]; rfl
theorem isNm_eq (nm : ByteArray) : isNm nm = rightN nm := by
  rw [isNm, rightN]
  refine decide_eq_decide.2 ⟨fun h => ⟨fun e => ?_, h.2⟩, fun h => ⟨?_, h.2⟩⟩
  · rw [e] at h; exact absurd h.1 (by decide)
  · refine Nat.pos_of_ne_zero fun e => h.1 ?_
    cases nm with | mk d =>
    have : d.size = 0 := e
    exact congrArg _ (Array.eq_empty_of_size_eq_zero this)
theorem keys_perm {d e : DIR} (h : DirT d e) (hd : (d.map (·.1)).Nodup) : (e.map (·.1)).Perm (d.map (·.1)) :=
  (List.perm_ext_iff_of_nodup h.2.nd hd).2 fun x => by
    constructor
    · intro hx
      refine Classical.byContradiction fun hn => ?_
      have h1 : asc x d = none := asc_none.2 fun p hp e => hn (List.mem_map.2 ⟨p, hp, e⟩)
      rw [← h.1] at h1
      obtain ⟨p, hp, e⟩ := List.mem_map.1 hx
      exact asc_none.1 h1 p hp e
    · intro hx
      refine Classical.byContradiction fun hn => ?_
      have h1 : asc x e = none := asc_none.2 fun p hp e => hn (List.mem_map.2 ⟨p, hp, e⟩)
      rw [h.1] at h1
      obtain ⟨p, hp, e⟩ := List.mem_map.1 hx
      exact asc_none.1 h1 p hp e
theorem Tie.dlen (h : Tie s t) (hok : s.Ok) : t.dir.length = s.dir.length := by
  have := (keys_perm h.dir hok.nd).length_eq
  rwa [List.length_map, List.length_map] at this
theorem Tie.flen (h : Tie s t) (k : Int) : (rfat t k).1 = (fat s.fs k).1 ∧ (rfat t k).2.1 = (fat s.fs k).2 := by
  rw [rfat, Go.Proofs.YtjjhddjllpihaaaGreatDoor.fat, List.getD_eq_getElem?_getD, List.getD_eq_getElem?_getD]
  by_cases hk : k.toNat < s.fs.length
  · obtain ⟨f, hf⟩ : ∃ f, s.fs[k.toNat]? = some f := ⟨_, List.getElem?_eq_getElem hk⟩
    obtain ⟨g, hg⟩ : ∃ g, t.fs[k.toNat]? = some g := ⟨_, List.getElem?_eq_getElem (by rw [h.len]; exact hk)⟩
    rw [hf, hg]
    obtain ⟨h1, h2, _⟩ := h.fs _ f g hf hg
    exact ⟨h1, h2⟩
  · rw [List.getElem?_eq_none (show s.fs.length ≤ k.toNat by omega), List.getElem?_eq_none (show t.fs.length ≤ k.toNat by rw [h.len]; omega)]; exact ⟨rfl, rfl⟩
theorem sum_perm {a b : List Nat} (h : a.Perm b) : a.sum = b.sum := h.sum_nat
theorem Tie.used (h : Tie s t) (hok : s.Ok) : t.used = s.used := by
  have e : ∀ l : DIR, (∀ p, p ∈ l → asc p.1 t.dir = some p.2) → rcost t l = ((l.map (·.1)).map (cost (Go.Proofs.YtjjhddjllpihaaaGreatDoor.flen s.fs) s.dir)).sum := by
    intro l hl
    rw [rcost, List.map_map]
    congr 1
    refine List.map_congr_left fun p hp => ?_
    have h1 := hl p hp
    rw [h.dir.1] at h1
    show rsec (rfat t p.2).1.length = cost (Go.Proofs.YtjjhddjllpihaaaGreatDoor.flen s.fs) s.dir p.1
    rw [cost, h1, (h.flen p.2).1]; rfl
  rw [RS.used, e t.dir (fun p hp => asc_mem h.dir.2.nd hp), DS.used, costs]
  exact sum_perm ((keys_perm h.dir hok.nd).map _)
end
def Both (a : Int × DS) (b : Int × RS) : Prop := b.1 = a.1 ∧ Tie a.2 b.2
section
variable {s : DS} {t : RS}
theorem Tie.did (h : Tie s t) : Tie s.did t.did := ⟨h.rm, h.has, by rw [RS.did, DS.did]; simp only [h.has, h.left], h.chs, h.len, h.fs, h.dir, h.fx, h.out⟩
theorem Tie.note (h : Tie s t) (hn : (s.dir.map (·.1)).Nodup) (c : CHG) : Tie (s.note c) (t.note c) := ⟨h.rm, h.has, h.left, by rw [RS.note, DS.note]; simp only [h.chs], h.len, h.fs, h.dir.trn hn c, h.fx, h.out⟩
theorem Tie.fuse (h : Tie s t) (n : Int) : Both (s.fuse n) (t.fuse n) := by
  rw [DS.fuse, RS.fuse]
  split
  · exact ⟨rfl, h⟩
  · exact ⟨rfl, h.rm, rfl, rfl, h.chs, h.len, h.fs, h.dir, h.fx, h.out⟩
theorem Tie.delete (h : Tie s t) (hok : s.Ok) (nm : ByteArray) : Both (s.delete nm) (t.delete nm) := by
  rw [DS.delete, RS.delete, h.down hok]
  split
  · exact ⟨rfl, h⟩
  · cases ha : asc nm s.dir with
    | none => rw [if_pos rfl, h.find_none ha, if_pos (by decide)]; exact ⟨rfl, h⟩
    | some k =>
      have hk := (hok.dir _ (asc_some ha)).1
      have hk : 0 ≤ k := hk
      rw [if_neg (by simp), h.find_some ha, if_neg Zz]; exact ⟨rfl, (h.note hok.nd _).did⟩
theorem Tie.create (h : Tie s t) (hok : s.Ok) (nm : ByteArray) : Both (s.create nm) (t.create nm) := by
  rw [DS.create, RS.create, h.down hok, isNm_eq, h.dlen hok]
  split
  · exact ⟨rfl, h⟩
  · split
    · exact ⟨rfl, h⟩
    · cases ha : asc nm s.dir with
      | some k =>
        have hk := (hok.dir _ (asc_some ha)).1
        have hk : 0 ≤ k := hk
        rw [if_pos (show (some k).isSome = true from rfl), h.find_some ha, if_pos hk]; exact ⟨rfl, h⟩
      | none =>
        rw [if_neg (show ¬ (none : Option Int).isSome = true by decide), h.find_none ha, if_neg (show ¬ (0 : Int) ≤ -1 by decide)]
        split
        · exact ⟨rfl, h⟩
        · suffices h0 : Tie ({ s with fs := s.fs ++ [([], [])] } : DS) ({ t with fs := t.fs ++ [([], [], [])] } : RS) by
            refine ⟨rfl, ?_⟩
            rw [h.len]
            exact (h0.note hok.nd _).did
          refine ⟨h.rm, h.has, h.left, h.chs, by simp [h.len], fun k f g h1 h2 => ?_, h.dir, h.fx, fun p hp => by have := h.out p hp; simp; omega⟩
          have h1' : (s.fs ++ [([], [])])[k]? = some f := h1
          have h2' : (t.fs ++ [([], [], [])])[k]? = some g := h2
          by_cases hk : k < s.fs.length
          · rw [List.getElem?_append_left hk] at h1'
            rw [List.getElem?_append_left (by rw [h.len]; exact hk)] at h2'
            exact h.fs k f g h1' h2'
          · have hl := (List.getElem?_eq_some_iff.1 h1').1
            rw [List.length_append, List.length_singleton] at hl
            have hk2 : k = s.fs.length := by omega
            subst hk2
            rw [List.getElem?_append_right (Nat.le_refl _), Nat.sub_self] at h1'
            rw [List.getElem?_append_right (by rw [h.len]; exact Nat.le_refl _), h.len, Nat.sub_self] at h2'
            cases h1'; cases h2'
            refine ⟨rfl, rfl, List.Pairwise.nil, fun i => ?_, fun i hi => by cases hi⟩
            have : asc ((s.fs.length : Int), i) s.ls = none := asc_none.2 fun p hp e => by have := h.out p hp; rw [e] at this; simp at this
            show i ∈ [] ↔ (asc ((s.fs.length : Int), i) s.ls).getD false = true
            rw [this]; simp
end
section
variable {s : DS} {t : RS}
theorem Tie.size (h : Tie s t) (hok : s.Ok) (nm : ByteArray) : t.sizeOf nm = s.sizeOf nm := by
  rw [DS.sizeOf, RS.sizeOf]
  cases ha : asc nm s.dir with
  | none => rw [h.find_none ha, if_pos (by decide)]
  | some k =>
    have hk : 0 ≤ k := (hok.dir _ (asc_some ha)).1
    rw [h.find_some ha, if_neg Zz, (h.flen k).1]; rfl
theorem Tie.read (h : Tie s t) (hok : s.Ok) (nm : ByteArray) (a n : Int) : t.read nm a n = s.read nm a n := by
  rw [DS.read, RS.read]
  cases ha : asc nm s.dir with
  | none => rw [h.find_none ha, if_pos (by decide)]
  | some k =>
    have hk : 0 ≤ k := (hok.dir _ (asc_some ha)).1
    rw [h.find_some ha, if_neg Zz, (h.flen k).1]
theorem Tie.set (h : Tie s t) {k : Int} (hk : 0 ≤ k ∧ k < s.fs.length) {f : FILE} {g : RF} {ls : LS} (h1 : g.1 = f.1 ∧ g.2.1 = f.2 ∧ Lo g.2.2 k ls f.1.length) (h2 : ∀ (j : Nat) l n, (j : Int) ≠ k → Lo l (j : Int) s.ls n → Lo l (j : Int) ls n) (h3 : ∀ p, p ∈ ls → p.1.1 < (s.fs.length : Int)) : Tie ({ s with fs := s.fs.set k.toNat f, ls := ls } : DS) ({ t with fs := t.fs.set k.toNat g } : RS) := by
  refine ⟨h.rm, h.has, h.left, h.chs, by simp [h.len], fun j f' g' a1 a2 => ?_, h.dir, h.fx, fun p hp => by have := h3 p hp; simpa using this⟩
  have a1' : (s.fs.set k.toNat f)[j]? = some f' := a1
  have a2' : (t.fs.set k.toNat g)[j]? = some g' := a2
  by_cases hj : j = k.toNat
  · subst hj
    rw [List.getElem?_set_self Zz] at a1'
    rw [List.getElem?_set_self (by rw [h.len]; omega)] at a2'
    cases a1'; cases a2'
    rw [show ((k.toNat : Nat) : Int) = k by omega]; exact h1
  · rw [List.getElem?_set_ne (fun e => hj e.symm)] at a1' a2'
    obtain ⟨b1, b2, b3⟩ := h.fs j f' g' a1' a2'
    exact ⟨b1, b2, h2 j _ _ Zz b3⟩
theorem Tie.sync (h : Tie s t) (hok : s.Ok) (nm : ByteArray) : Both (s.sync nm) (t.sync nm) := by
  rw [DS.sync, RS.sync, h.down hok]
  split
  · exact ⟨rfl, h⟩
  · cases ha : asc nm s.dir with
    | none => rw [h.find_none ha, if_pos (by decide)]; exact ⟨rfl, h⟩
    | some k =>
      obtain ⟨hk, hk2, _⟩ := hok.dir _ (asc_some ha)
      have hk : 0 ≤ k := hk
      have hk2 : k < s.fs.length := hk2
      rw [h.find_some ha, if_neg Zz, (h.flen k).1]
      exact ⟨rfl, Tie.did (h.set ⟨hk, hk2⟩ ⟨rfl, rfl, Lo.synced k s.ls _⟩ (fun j l n hj hl => hl.kept hj) (fun p hp => h.out p (List.mem_filter.1 hp).1))⟩
end
section
variable {s : DS} {t : RS}
theorem Tie.lo (h : Tie s t) {k : Int} (hk : 0 ≤ k ∧ k < s.fs.length) : Lo (rfat t k).2.2 k s.ls (Go.Proofs.YtjjhddjllpihaaaGreatDoor.fat s.fs k).1.length := by
  obtain ⟨f, hf⟩ : ∃ f, s.fs[k.toNat]? = some f := ⟨s.fs[k.toNat]'Zz, List.getElem?_eq_getElem _⟩
  obtain ⟨g, hg⟩ : ∃ g, t.fs[k.toNat]? = some g := ⟨t.fs[k.toNat]'(by rw [h.len]; omega), List.getElem?_eq_getElem _⟩
  obtain ⟨_, _, h3⟩ := h.fs _ f g hf hg
  rw [rfat_at hg, Go.Proofs.YtjjhddjllpihaaaGreatDoor.fat, List.getD_eq_getElem?_getD, hf]
  rw [show ((k.toNat : Nat) : Int) = k by omega] at h3
  exact h3
theorem markL_in {k n : Int} (hk : k < n) : ∀ (c q : Nat) (ls : LS), (∀ p, p ∈ ls → p.1.1 < n) → ∀ p, p ∈ markL k q c ls → p.1.1 < n
  | 0, _, _, h => h
  | c + 1, q, ls, h => markL_in hk c (q + 1) _ (fun p hp => by
      rcases put_mem hp with h1 | h1
      · rw [h1]; exact hk
      · exact h p h1)
theorem Tie.write (h : Tie s t) (hok : s.Ok) (nm : ByteArray) (a : Int) (y : List UInt8) : Both (s.write nm a y) (t.write nm a y) := by
  rw [DS.write, RS.write, h.down hok, h.rm, h.used hok]
  split
  · exact ⟨rfl, h⟩
  · cases ha : asc nm s.dir with
    | none => rw [h.find_none ha, if_pos (by decide)]; exact ⟨rfl, h⟩
    | some k =>
      obtain ⟨hk, hk2, _⟩ := hok.dir _ (asc_some ha)
      have hk : 0 ≤ k := hk
      have hk2 : k < s.fs.length := hk2
      have hlo := h.lo ⟨hk, hk2⟩
      rw [h.find_some ha, if_neg Zz, (h.flen k).1, (h.flen k).2]
      simp only
      split
      · exact ⟨rfl, h⟩
      · rename_i hr
        split
        · exact ⟨rfl, h⟩
        · have hadd : (s.used : Int) - (rsec (Go.Proofs.YtjjhddjllpihaaaGreatDoor.fat s.fs k).1.length : Int) + (rsec (max (Go.Proofs.YtjjhddjllpihaaaGreatDoor.fat s.fs k).1.length (a.toNat + y.length)) : Int) = (s.used : Int) + (secs (max (Go.Proofs.YtjjhddjllpihaaaGreatDoor.fat s.fs k).1.length (a.toNat + y.length)) : Int) - (secs (Go.Proofs.YtjjhddjllpihaaaGreatDoor.fat s.fs k).1.length : Int) := by
            simp only [rsec, secs]; omega
          rw [hadd]
          split
          · exact ⟨rfl, h⟩
          · have hwl := wrt_len (Go.Proofs.YtjjhddjllpihaaaGreatDoor.fat s.fs k).1 a.toNat y Zz
            have hL : Lo (rmark (a.toNat / 64) (rtouch a.toNat y.length) (rfat t k).2.2) k (markL k (a.toNat / 64) (touched a.toNat y.length) s.ls) (wrt (Go.Proofs.YtjjhddjllpihaaaGreatDoor.fat s.fs k).1 a.toNat y).length := by
              refine Lo.mark _ _ (hlo.more (by simp only [hwl]; omega)) ?_
              simp only [hwl, rtouch, rsec]
              split <;> omega
            have hs := h.set (f := (wrt (Go.Proofs.YtjjhddjllpihaaaGreatDoor.fat s.fs k).1 a.toNat y, (Go.Proofs.YtjjhddjllpihaaaGreatDoor.fat s.fs k).2)) (g := (rwrt (Go.Proofs.YtjjhddjllpihaaaGreatDoor.fat s.fs k).1 a.toNat y, (Go.Proofs.YtjjhddjllpihaaaGreatDoor.fat s.fs k).2, rmark (a.toNat / 64) (rtouch a.toNat y.length) (rfat t k).2.2)) (ls := markL k (a.toNat / 64) (touched a.toNat y.length) s.ls) ⟨hk, hk2⟩ ⟨rfl, rfl, hL⟩ (fun j l n hj hl => hl.other hj _ _) (markL_in hk2 _ _ _ h.out)
            rw [h.rm] at hs
            exact ⟨rfl, hs.did⟩
theorem looseL_tie (h : Tie s t) : ∀ l : List Int, (∀ k, k ∈ l → 0 ≤ k ∧ k < s.fs.length) → looseL s l = (rls t l, rcn t l)
  | [], _ => rfl
  | k :: l, hl => by
    have hk := hl k List.mem_cons_self
    have hsp := (h.lo hk).spots
    have e : s.spots k = (rfat t k).2.2 := hsp.symm
    rw [looseL, looseL_tie h l (fun x hx => hl x (List.mem_cons_of_mem _ hx)), e, ← (h.flen k).1, ← (h.flen k).2]
    rfl
theorem Tie.loose (h : Tie s t) (hok : s.Ok) (htk : t.Ok) : t.loose = s.loose := by
  have hn := near_tie h.fx hok.ndx h.chs
  rw [RS.loose, DS.loose, h.chs, ← hn, looseL_tie h t.near (fun k hk => by have := rnear_ok htk hk; rw [h.len] at this; exact this)]
end
theorem rinc_len : ∀ {l : List Int} {a : Int} {n : Nat}, Inc l → (∀ x, x ∈ l → a ≤ x ∧ x < a + n) → l.length ≤ n
  | [], _, _, _, _ => Nat.zero_le _
  | x :: l, a, n, h, hr => by
    obtain ⟨h1, h2⟩ := List.pairwise_cons.1 h
    have h3 := hr x List.mem_cons_self
    have := rinc_len (a := a + 1) (n := n - 1) h2 (fun y hy => by have h4 := h1 y hy; have h5 := hr y (List.mem_cons_of_mem _ hy); omega)
    rw [List.length_cons]; omega
theorem DirT.in_ {d e : DIR} (h : DirT d e) {p : ByteArray × Int} (hp : p ∈ e) : p ∈ d := by
  have := asc_mem h.2.nd (x := p.1) (u := p.2) hp
  rw [h.1] at this
  exact asc_some this
theorem Tie.ok {s : DS} {t : RS} (h : Tie s t) (hok : s.Ok) (hs : s.size ≤ 50000) : t.Ok := by
  have hsz : s.fs.length + s.chs.length ≤ 50000 := hs
  refine ⟨by rw [h.rm]; exact hok.rm, fun p hp => ?_, fun p hp => ?_, fun c hc he => ?_, fun g hg => ?_, by rw [h.dlen hok]; exact hok.few, ?_, ⟨by rw [h.len]; omega, by rw [h.chs]; omega⟩, by rw [h.left]; exact hok.lf⟩
  · have := hok.dir p (h.dir.in_ hp); rw [h.len]; exact ⟨this.1, this.2.1⟩
  · have := hok.fx p (h.fx.in_ hp); rw [h.len]; exact ⟨this.1, this.2.1⟩
  · rw [h.chs] at hc; rw [h.len]; exact hok.chs c hc he
  · obtain ⟨k, hk⟩ := List.getElem?_of_mem hg
    have hkl := (List.getElem?_eq_some_iff.1 hk).1
    obtain ⟨f, hf⟩ : ∃ f, s.fs[k]? = some f := ⟨s.fs[k]'(by rw [← h.len]; exact hkl), List.getElem?_eq_getElem _⟩
    obtain ⟨h1, h2, h3⟩ := h.fs k f g hf hk
    have hff := hok.fs f (List.mem_of_getElem? hf)
    have hr : ∀ i, i ∈ g.2.2 → 0 ≤ i ∧ i < 16384 := fun i hi => by have := h3.rng i hi; rw [rsec] at this; omega
    refine ⟨by rw [h1]; exact hff.1, by rw [h2]; exact hff.2, rinc_len (a := 0) (n := 16384) h3.inc (fun x hx => by have := hr x hx; omega), hr⟩
  · have := (keys_perm h.fx hok.ndx).length_eq
    rw [List.length_map, List.length_map] at this
    rw [this]; exact hok.fewx
theorem sortB_sorted {l : DIR} (h : Srtd l) : sortB (l.map (·.1)) = l.map (·.1) := by
  rw [sortB, List.mergeSort_of_pairwise, List.map_map]
  · exact (List.map_congr_left (fun x _ => by cases x; simp)).trans (List.map_id _)
  · rw [List.pairwise_map, List.pairwise_map]
    exact h.imp fun {p q} hpq => by
      rw [sless_lt] at hpq
      exact decide_eq_true (List.le_of_lt (of_decide_eq_true hpq))
theorem Tie.names {s : DS} {t : RS} (h : Tie s t) (hok : s.Ok) : sortB (s.dir.map (·.1)) = t.dir.map (·.1) := by
  rw [← sortB_perm (keys_perm h.dir hok.nd), sortB_sorted h.dir.2]
structure Tw (g : Nat) (ca cb : Nat → Nat) (w : World) (b x m : Nat) (r : Int) (s : DS) (t : RS) : Prop where
  D : DkR ca w b s
  X : RkR cb w x t
  ap : ∀ q, ca q ≠ 0 → cb q = 0
  inv : s.Inv
  fit : s.Fits r
  tie : Tie s t
  sz : s.size ≤ m
  lo : ∀ q, q < g → ca q = 0 ∧ cb q = 0
  gw : g ≤ w.heap.size
structure Md (g : Nat) (ca ca' cb : Nat → Nat) (w w1 : World) (b x m : Nat) (r : Int) (s s1 : DS) (t : RS) : Prop where
  T : Tw g ca cb w b x m r s t
  D : DkR ca' w1 b s1
  st : Stp ca w ca' w1
section
variable {g b x m m' : Nat} {ca cb ca' cb' : Nat → Nat} {w w1 w2 : World} {r : Int} {s s1 : DS} {t t1 : RS}
theorem Tw.ok (h : Tw g ca cb w b x m r s t) (hm : m ≤ 40000) : t.Ok := h.tie.ok h.inv.ok (by have := h.sz; omega)
theorem Tw.ext (h : Tw g ca cb w b x m r s t) {T : Nat → Prop} (y : Ext T w w1) (hT : ∀ q, ca q ≠ 0 ∨ cb q ≠ 0 → ¬ T q) : Tw g ca cb w1 b x m r s t :=
  ⟨h.D.ext y fun q hq => hT q (.inl hq), h.X.ext y fun q hq => hT q (.inr hq), h.ap, h.inv, h.fit, h.tie, h.sz, h.lo, Nat.le_trans h.gw y.size⟩
theorem Tw.keep (h : Tw g ca cb w b x m r s t) (y : Keep w w1) : Tw g ca cb w1 b x m r s t := h.ext y fun _ _ h => h
theorem Md.X (h : Md g ca ca' cb w w1 b x m r s s1 t) : RkR cb w1 x t := h.T.X.ext h.st.ext fun q hq e => hq (h.T.ap q e)
theorem Md.next (h : Md g ca ca' cb w w1 b x m r s s1 t) (h2 : RkR cb' w2 x t1) (s2 : Stp cb w1 cb' w2) (hi : s1.Inv) (hf : s1.Fits r) (ht : Tie s1 t1) (hz : s1.size ≤ m') : Tw g ca' cb' w2 b x m' r s1 t1 := by
  have hap : ∀ q, ca' q ≠ 0 → cb q = 0 := fun q hq => by
    rcases Nat.lt_or_ge q w.heap.size with hl | hl
    · exact h.T.ap q (by rw [← h.st.1 q hl]; exact hq)
    · exact Classical.byContradiction fun e => by have := h.T.X.lt q e; omega
  refine ⟨h.D.ext s2.2 fun q hq e => e (hap q hq), h2, fun q hq => (s2.1 q (h.D.lt q hq)).trans (hap q hq), hi, hf, ht, hz, fun q hq => ?_, ?_⟩
  · have hg := h.T.gw
    have h1 := h.st.2.size
    exact ⟨(h.st.1 q Zz).trans (h.T.lo q hq).1, (s2.1 q Zz).trans (h.T.lo q hq).2⟩
  · exact Nat.le_trans h.T.gw (Nat.le_trans h.st.2.size s2.2.size)
end
end Go.Proofs.YtjjhddjllpihaaaGreatDoor
