/- Texts that the proof of RunReads stands on, part 16. -/
import Derived.Test.YtbljooblpfdbiaaGreatDoorRows
import Derived.LaidMore
import Derived.ProofKit
import Derived.OpenShut
import Derived.Stop.Joined
import Derived.KernelRfl
import Derived.Test.YtbljooblpfdbiaaGreatDoorProg
import Derived.Test.YtbljooblpfdbiaaGreatDoorBunRunReads15
set_option maxHeartbeats 4000000
set_option maxRecDepth 100000
open Go.Proofs.Tryz renaming call112 → Zc112, call67 → Zc67, func112 → Zf112, func113 → Zf113, func115 → Zf115, func149 → Zf149, func174 → Zf174, func28 → Zf28, func29 → Zf29, func6 → Zf6, func66 → Zf66, func68 → Zf68, isAgg3 → Zi3, isAgg38 → Zi38, isAgg40 → Zi40, isAgg5 → Zi5, isAgg69 → Zi69, isAgg71 → Zi71, isAgg90 → Zi90, results112 → Zr112, results113 → Zr113, results115 → Zr115, results149 → Zr149, results174 → Zr174, results28 → Zr28, results29 → Zr29, results66 → Zr66, results68 → Zr68, sizeOf3 → Zs3, sizeOf38 → Zs38, sizeOf40 → Zs40, sizeOf5 → Zs5, sizeOf69 → Zs69, sizeOf71 → Zs71, sizeOf76 → Zs76, sizeOf90 → Zs90, underlying119 → Zu119, underlying2 → Zu2, underlying22 → Zu22, underlying3 → Zu3, underlying38 → Zu38, underlying43 → Zu43, underlying5 → Zu5, underlying69 → Zu69, underlying71 → Zu71, underlying76 → Zu76, underlying9 → Zu9, zeroValue40 → Zv40, zeroValue71 → Zv71, zeroValue90 → Zv90
set_option linter.unusedSimpArgs false
set_option linter.unusedVariables false
namespace Go.Proofs.YtbljooblpfdbiaaGreatDoor
open Go Go.Proofs.YtbljooblpfdbiaaGreatDoor.X Go.ChangeShapes Go.WideShapes Go.ChangeAt Go.RowKit
def laidT : List (String × DataW Unit) := [("pedigree/crc.table", Rows.laid_pedigree_crc_table)]
theorem gTab : Tryz.prog.globalNamed "pedigree/crc.table" = some 0 := by kernel_rfl
theorem tTab : (Tryz.prog.globals[0]?).map (·.type) = some 244 := by kernel_rfl
theorem c32 : Tryz.prog.cellsOf 68 = 1 := by kernel_rfl
theorem tab_list : Rows.laid_pedigree_crc_table = (DataW.agg (tabL.map fun (n : Nat) => .lit (.int .u32 (n : Int))) : DataW Unit) := rfl
theorem tab_at : ∀ i : Fin 16, tabL[i.1]? = some (tabV i.1).toNat := by decide
theorem door_met (os : Os) (args : Array Value) : laidMetH Tryz.prog laidT ((World.doorLaid Tryz.prog 400 os).forCall (fun _ _ => 0) ⟨#[], args, []⟩).memory :=
  laidMetH_of_parts3 (fuel := 8) (laidMet_of_run' 8 Zl Zl) Zl Zl
theorem tabOk_of_laid {W : World} (h : laidMetH Tryz.prog laidT W) : TabOk W := by
  rw [MakeChecks.laidMetH_plain _ _ _ Zl] at h
  obtain ⟨ps, ⟨g0, t0, cs0, f0, p0, q0, hg0, ht0, hv0, hd0, _, _⟩, _, _⟩ := h
  obtain rfl := Option.some.inj (gTab.symm.trans hg0)
  obtain rfl := Option.some.inj (tTab.symm.trans ht0)
  obtain ⟨xs, m1, rfl, hx1, hlen, hn, hel⟩ := DataW.trod_array Tryz.underlying244 hd0
  intro i hi
  rw [tab_list] at hx1
  simp only [Prod.mk.injEq, DataW.agg.injEq] at hx1
  obtain ⟨x, hx⟩ : ∃ x, xs[i]? = some x := ⟨xs[i]'Zz, List.getElem?_eq_getElem Zz⟩
  have h1 := hel i hi
  rw [hx, c32] at h1
  obtain ⟨k, e1, e2, _⟩ := DataW.trod_int Tryz.underlying68 h1
  have h2 : (xs.map (·.1))[i]? = some x.1 := by rw [List.getElem?_map, hx]; rfl
  rw [← hx1.1, List.getElem?_map, tab_at ⟨i, hi⟩, e2] at h2
  have hk : k = ((tabV i).toNat : Int) := by
    simp at h2
    exact h2.symm
  subst hk
  have h3 : (cs0.toList.drop (i * 1)).take 1 = [Value.int .u32 ((tabV i).toNat : Int)] := e1
  have h4 : cs0.toList[i]? = some (Value.int .u32 ((tabV i).toNat : Int)) := by
    have := congrArg (fun l => l[0]?) h3
    rw [Nat.mul_one] at this
    simpa [List.getElem?_take, List.getElem?_drop] using this
  rw [World.var?_cell hg0 hv0 i]
  simpa using h4
end Go.Proofs.YtbljooblpfdbiaaGreatDoor
namespace Go.Proofs.YtbljooblpfdbiaaGreatDoor
open Go Go.Proofs.YtbljooblpfdbiaaGreatDoor.X
theorem mul_n (a b : Nat) (h : a * b < 18446744073709551616) : IntKind.u64.wrap (((a : Nat) : Int) * ((b : Nat) : Int)) = ((a * b : Nat) : Int) := by
  rw [← Int.natCast_mul]; exact w_u64 Zz
theorem add_n (a b : Nat) (h : a + b < 18446744073709551616) : IntKind.u64.wrap (((a : Nat) : Int) + ((b : Nat) : Int)) = ((a + b : Nat) : Int) := by
  rw [← Int.natCast_add]; exact w_u64 Zz
theorem RTakeNum_c {lo hi : Nat} {A : Option Addr} {n c : Nat} {l : List UInt8} (w : World) (hs : Sl KB lo hi w A n l) (hnc : n ≤ c) (hn : n ≤ 1000000) : Ret Tryz.prog 112 #[.slice A n c] w fun r w' => r = .tuple #[.int .u64 ((told (pNum 0 0 l) 0 : Nat) : Int), .int .i64 (cnt (pNum 0 0 l) n), .int .i64 (code (pNum 0 0 l))] ∧ Keep w w' := by
 have hl := hs.len
 refine X.enter Zf112 rfl Tryz.ntmps112 rfl<|Zs<|Zr<|Zoa rfl rfl<|Zoa rfl rfl<|Zoa rfl rfl<|Ze<|Zs<|Zr<|Zoa rfl rfl<|Zoa rfl rfl<|Ze<|Zs<|Zs<|Zr<|Zoa rfl rfl<|Ze<|Zb<|X.loopL (σ := Nat × Nat) (fun s => [(0, .slice A n c), (5, .int .u64 ((s.2 : Nat) : Int)), (6, .int .u64 ((128 ^ s.1 : Nat) : Int)), (7, .int .i64 (s.1 : Int))]) (fun s w' => s.1 ≤ n ∧ s.1 ≤ 9 ∧ s.2 < 128 ^ s.1 ∧ pNum s.1 s.2 (l.drop s.1) = pNum 0 0 l ∧ Keep w w') (fun s => n - s.1) (0, 0) ⟨rfl, rfl, rfl, rfl, trivial⟩ ⟨by simp, by simp, by simp, by simp, (Keep.refl _)⟩ ?_
 rintro ⟨i, acc⟩ b wl ⟨hin, hi0, ha, hp, hk⟩ hback
 simp only at hin hi0 ha hp
 have hk' := hk.size
 refine Zs<|Zs<|Zr<|Zomi rfl rfl<|Zoms rfl rfl<|Zo (X.lenSl Zu43 rfl) rfl<|X.opP X.wN rfl rfl (X.lss rfl rfl) (fun h11 => ?_) (fun h11 => ?_)
 ·obtain ⟨y, hx⟩ := getN i hl h11
  have hd := drop_at hx
  have huy := y.toNat_lt
  rw [hd] at hp
  refine Zomt rfl rfl<|Zg (Zdmi rfl) rfl rfl rfl rfl<|X.opP (X.wG rfl rfl rfl) rfl rfl (X.lss rfl rfl) (fun h14 => ?_) (fun h14 => ?_)
  ·refine Zo (ZdTt rfl rfl) rfl<|Ze<|Zt rfl<|Zk<|Zs<|Zb<|Zs<|Zs<|Zr<|Zomi rfl rfl<|X.opP X.wN rfl rfl (X.eqI rfl rfl) (fun h19 => ?_) (fun h19 => ?_)
   ·refine Zomt rfl rfl<|Zg (Zdms rfl) rfl rfl rfl rfl<|Zg (Zdmi rfl) rfl rfl rfl rfl<|Zg (X.idxS (hs.keep hk) Zu43 Zs5 rfl rfl ⟨by omega, by omega⟩) rfl rfl rfl rfl<|Zg (X.loadS Zi5 (hs.keep hk) hx rfl (fun _ h => by rw [h.1]; rfl)) rfl rfl rfl rfl ?_
    refine X.opP (X.wG rfl rfl rfl) rfl rfl (X.gtr rfl rfl) (fun h25 => ?_) (fun h25 => ?_)
    ·refine Zo (ZdTt rfl rfl) rfl<|Zomt rfl rfl<|Zp rfl rfl rfl<|Zp rfl rfl rfl<|Zp rfl rfl rfl<|Zu rfl rfl rfl<|Zu rfl rfl rfl<|Zu rfl rfl rfl<|Zu rfl rfl rfl<|Zu rfl rfl rfl<|Zp rfl rfl rfl<|Zo (ZdTt rfl rfl) rfl<|Ze<|Zt rfl<|Zs<|Zr<|Zoa rfl rfl<|Zoa rfl rfl<|Zoa rfl rfl<|Ze<|X.ret3 (v1 := (.int .u64 _)) (v2 := (.int .i64 _)) (v3 := (.int .i64 _)) Zf112 Zr112 rfl rfl rfl ?_
     first
     | exact ⟨by rw [← hp]; rfl, hk⟩
     | exact ⟨by rw [← hp, pNum, if_pos Zz]; rfl, hk⟩
     | exact ⟨by rw [← hp, pNum, if_neg Zz, if_pos Zz]; simp only [told, cnt, code, Option.isSome_some, if_true]; rw [List.length_drop, show ((n : Nat) : Int) - ((l.length - (i + 1) : Nat) : Int) = (i : Int) + 1 by omega], hk⟩
    ·refine Zo (ZdTf rfl rfl) rfl<|Zomf rfl rfl<|Zg (Zdmi rfl) rfl rfl rfl rfl<|X.opP (X.wG rfl rfl rfl) rfl rfl (X.gtr rfl rfl) (fun h29 => ?_) (fun h29 => ?_)
     ·refine Zg (Zdmt rfl) rfl rfl rfl rfl<|Zg (Zdms rfl) rfl rfl rfl rfl<|Zg (Zdmi rfl) rfl rfl rfl rfl<|Zg (X.idxS (hs.keep hk) Zu43 Zs5 rfl rfl ⟨by omega, by omega⟩) rfl rfl rfl rfl<|Zg (X.loadS Zi5 (hs.keep hk) hx rfl (fun _ h => by rw [h.1]; rfl)) rfl rfl rfl rfl ?_
      refine X.opP (X.wG rfl rfl rfl) rfl rfl (X.eqI rfl rfl) (fun h35 => ?_) (fun h35 => ?_)
      ·refine Zg (ZdTt rfl rfl) rfl rfl rfl rfl<|Zo (ZdFt rfl rfl) rfl<|Ze<|Zt rfl<|Zs<|Zr<|Zoa rfl rfl<|Zoa rfl rfl<|Zoa rfl rfl<|Ze<|X.ret3 (v1 := (.int .u64 _)) (v2 := (.int .i64 _)) (v3 := (.int .i64 _)) Zf112 Zr112 rfl rfl rfl ?_
       first
       | exact ⟨by rw [← hp]; rfl, hk⟩
       | exact ⟨by rw [← hp, pNum, if_pos Zz]; rfl, hk⟩
       | exact ⟨by rw [← hp, pNum, if_neg Zz, if_pos Zz]; simp only [told, cnt, code, Option.isSome_some, if_true]; rw [List.length_drop, show ((n : Nat) : Int) - ((l.length - (i + 1) : Nat) : Int) = (i : Int) + 1 by omega], hk⟩
      ·refine Zg (ZdTf rfl rfl) rfl rfl rfl rfl<|Zo (ZdFf rfl rfl) rfl<|Ze<|Zf rfl<|Zk<|Zs<|Zr<|Zomu rfl rfl<|Zoms rfl rfl<|Zomi rfl rfl<|Zo (X.idxS (hs.keep hk) Zu43 Zs5 rfl rfl ⟨by omega, by omega⟩) rfl<|Zo (X.loadS Zi5 (hs.keep hk) hx rfl (fun _ h => by rw [h.1]; rfl)) rfl ?_
       refine Zo (X.rem (c := ((y.toNat % 128 : Nat) : Int)) rfl rfl (by decide) rfl) rfl<|Zo (X.cvI Zu5 Zu119 rfl (X.w_u64 Zz)) rfl<|Zomu rfl rfl<|Zo (X.mul (c := ((y.toNat % 128 * 128 ^ i : Nat) : Int)) rfl rfl (mul_n _ _ (Nat.lt_of_le_of_lt (Nat.le_add_left _ acc) (num_bound y hi0 ha Zz).1))) rfl<|Zo (X.add (c := ((acc + y.toNat % 128 * 128 ^ i : Nat) : Int)) rfl rfl (add_n _ _ (num_bound y hi0 ha Zz).1)) rfl<|Zoau rfl rfl<|Ze<|Zs<|Zs<|Zr<|Zoms rfl rfl<|Zomi rfl rfl<|Zo (X.idxS (hs.keep hk) Zu43 Zs5 rfl rfl ⟨by omega, by omega⟩) rfl<|Zo (X.loadS Zi5 (hs.keep hk) hx rfl (fun _ h => by rw [h.1]; rfl)) rfl ?_
       refine X.opP X.wN rfl rfl (X.lss rfl rfl) (fun h52 => ?_) (fun h52 => ?_)
       ·refine Ze<|Zt rfl<|Zs<|Zr<|Zomu rfl rfl<|Zomi rfl rfl<|Zo (X.add rfl rfl (X.w_i64 Zz)) rfl<|Zoau rfl rfl<|Zoai rfl rfl<|Zoa rfl rfl<|Ze<|X.ret3 (v1 := (.int .u64 _)) (v2 := (.int .i64 _)) (v3 := (.int .i64 _)) Zf112 Zr112 rfl rfl rfl ?_
        first
        | exact ⟨by rw [← hp]; rfl, hk⟩
        | exact ⟨by rw [← hp, pNum, if_pos Zz]; rfl, hk⟩
        | exact ⟨by rw [← hp, pNum, if_neg Zz, if_pos Zz]; simp only [told, cnt, code, Option.isSome_some, if_true]; rw [List.length_drop, show ((n : Nat) : Int) - ((l.length - (i + 1) : Nat) : Int) = (i : Int) + 1 by omega], hk⟩
       ·refine Ze<|Zf rfl<|Zk<|Zr<|Zomu rfl rfl<|Zo (X.mul (c := ((128 ^ (i + 1) : Nat) : Int)) rfl rfl zq11) rfl ?_
        refine Zoau rfl rfl<|Ze<|Zi<|Zr<|Zomi rfl rfl<|Zo (X.add rfl rfl (X.w_i64 Zz)) rfl<|Zoai rfl rfl<|Ze ?_
        refine hback (i + 1, acc + y.toNat % 128 * 128 ^ i) _ _ ⟨rfl, rfl, rfl, rfl, trivial⟩ ⟨by dsimp only; omega, by have := (num_bound y hi0 ha Zz).2.2 Zz; dsimp only; omega, (num_bound y hi0 ha Zz).2.1, by dsimp only; rw [← hp, pNum, if_neg Zz, if_neg Zz], hk⟩ (by dsimp only; omega)
     ·refine Zg (Zdmf rfl) rfl rfl rfl rfl<|Zp rfl rfl rfl<|Zp rfl rfl rfl<|Zp rfl rfl rfl<|Zp rfl rfl rfl<|Zp rfl rfl rfl<|Zg (ZdFf rfl rfl) rfl rfl rfl rfl<|Zo (ZdFf rfl rfl) rfl<|Ze<|Zf rfl<|Zk<|Zs<|Zr<|Zomu rfl rfl<|Zoms rfl rfl<|Zomi rfl rfl<|Zo (X.idxS (hs.keep hk) Zu43 Zs5 rfl rfl ⟨by omega, by omega⟩) rfl<|Zo (X.loadS Zi5 (hs.keep hk) hx rfl (fun _ h => by rw [h.1]; rfl)) rfl ?_
      refine Zo (X.rem (c := ((y.toNat % 128 : Nat) : Int)) rfl rfl (by decide) rfl) rfl<|Zo (X.cvI Zu5 Zu119 rfl (X.w_u64 Zz)) rfl<|Zomu rfl rfl<|Zo (X.mul (c := ((y.toNat % 128 * 128 ^ i : Nat) : Int)) rfl rfl (mul_n _ _ (Nat.lt_of_le_of_lt (Nat.le_add_left _ acc) (num_bound y hi0 ha Zz).1))) rfl<|Zo (X.add (c := ((acc + y.toNat % 128 * 128 ^ i : Nat) : Int)) rfl rfl (add_n _ _ (num_bound y hi0 ha Zz).1)) rfl<|Zoau rfl rfl<|Ze<|Zs<|Zs<|Zr<|Zoms rfl rfl<|Zomi rfl rfl<|Zo (X.idxS (hs.keep hk) Zu43 Zs5 rfl rfl ⟨by omega, by omega⟩) rfl<|Zo (X.loadS Zi5 (hs.keep hk) hx rfl (fun _ h => by rw [h.1]; rfl)) rfl ?_
      refine X.opP X.wN rfl rfl (X.lss rfl rfl) (fun h52 => ?_) (fun h52 => ?_)
      ·refine Ze<|Zt rfl<|Zs<|Zr<|Zomu rfl rfl<|Zomi rfl rfl<|Zo (X.add rfl rfl (X.w_i64 Zz)) rfl<|Zoau rfl rfl<|Zoai rfl rfl<|Zoa rfl rfl<|Ze<|X.ret3 (v1 := (.int .u64 _)) (v2 := (.int .i64 _)) (v3 := (.int .i64 _)) Zf112 Zr112 rfl rfl rfl ?_
       first
       | exact ⟨by rw [← hp]; rfl, hk⟩
       | exact ⟨by rw [← hp, pNum, if_pos Zz]; rfl, hk⟩
       | exact ⟨by rw [← hp, pNum, if_neg Zz, if_pos Zz]; simp only [told, cnt, code, Option.isSome_some, if_true]; rw [List.length_drop, show ((n : Nat) : Int) - ((l.length - (i + 1) : Nat) : Int) = (i : Int) + 1 by omega], hk⟩
      ·refine Ze<|Zf rfl<|Zk<|Zr<|Zomu rfl rfl<|Zo (X.mul (c := ((128 ^ (i + 1) : Nat) : Int)) rfl rfl zq11) rfl ?_
       refine Zoau rfl rfl<|Ze<|Zi<|Zr<|Zomi rfl rfl<|Zo (X.add rfl rfl (X.w_i64 Zz)) rfl<|Zoai rfl rfl<|Ze ?_
       refine hback (i + 1, acc + y.toNat % 128 * 128 ^ i) _ _ ⟨rfl, rfl, rfl, rfl, trivial⟩ ⟨by dsimp only; omega, by have := (num_bound y hi0 ha Zz).2.2 Zz; dsimp only; omega, (num_bound y hi0 ha Zz).2.1, by dsimp only; rw [← hp, pNum, if_neg Zz, if_neg Zz], hk⟩ (by dsimp only; omega)
   ·refine Zomf rfl rfl<|Zp rfl rfl rfl<|Zp rfl rfl rfl<|Zp rfl rfl rfl<|Zp rfl rfl rfl<|Zp rfl rfl rfl<|Zo (ZdFf rfl rfl) rfl<|Zomf rfl rfl<|Zg (Zdmi rfl) rfl rfl rfl rfl<|X.opP (X.wG rfl rfl rfl) rfl rfl (X.gtr rfl rfl) (fun h29 => ?_) (fun h29 => ?_)
    ·refine Zg (Zdmt rfl) rfl rfl rfl rfl<|Zg (Zdms rfl) rfl rfl rfl rfl<|Zg (Zdmi rfl) rfl rfl rfl rfl<|Zg (X.idxS (hs.keep hk) Zu43 Zs5 rfl rfl ⟨by omega, by omega⟩) rfl rfl rfl rfl<|Zg (X.loadS Zi5 (hs.keep hk) hx rfl (fun _ h => by rw [h.1]; rfl)) rfl rfl rfl rfl ?_
     refine X.opP (X.wG rfl rfl rfl) rfl rfl (X.eqI rfl rfl) (fun h35 => ?_) (fun h35 => ?_)
     ·refine Zg (ZdTt rfl rfl) rfl rfl rfl rfl<|Zo (ZdFt rfl rfl) rfl<|Ze<|Zt rfl<|Zs<|Zr<|Zoa rfl rfl<|Zoa rfl rfl<|Zoa rfl rfl<|Ze<|X.ret3 (v1 := (.int .u64 _)) (v2 := (.int .i64 _)) (v3 := (.int .i64 _)) Zf112 Zr112 rfl rfl rfl ?_
      first
      | exact ⟨by rw [← hp]; rfl, hk⟩
      | exact ⟨by rw [← hp, pNum, if_pos Zz]; rfl, hk⟩
      | exact ⟨by rw [← hp, pNum, if_neg Zz, if_pos Zz]; simp only [told, cnt, code, Option.isSome_some, if_true]; rw [List.length_drop, show ((n : Nat) : Int) - ((l.length - (i + 1) : Nat) : Int) = (i : Int) + 1 by omega], hk⟩
     ·refine Zg (ZdTf rfl rfl) rfl rfl rfl rfl<|Zo (ZdFf rfl rfl) rfl<|Ze<|Zf rfl<|Zk<|Zs<|Zr<|Zomu rfl rfl<|Zoms rfl rfl<|Zomi rfl rfl<|Zo (X.idxS (hs.keep hk) Zu43 Zs5 rfl rfl ⟨by omega, by omega⟩) rfl<|Zo (X.loadS Zi5 (hs.keep hk) hx rfl (fun _ h => by rw [h.1]; rfl)) rfl ?_
      refine Zo (X.rem (c := ((y.toNat % 128 : Nat) : Int)) rfl rfl (by decide) rfl) rfl<|Zo (X.cvI Zu5 Zu119 rfl (X.w_u64 Zz)) rfl<|Zomu rfl rfl<|Zo (X.mul (c := ((y.toNat % 128 * 128 ^ i : Nat) : Int)) rfl rfl (mul_n _ _ (Nat.lt_of_le_of_lt (Nat.le_add_left _ acc) (num_bound y hi0 ha Zz).1))) rfl<|Zo (X.add (c := ((acc + y.toNat % 128 * 128 ^ i : Nat) : Int)) rfl rfl (add_n _ _ (num_bound y hi0 ha Zz).1)) rfl<|Zoau rfl rfl<|Ze<|Zs<|Zs<|Zr<|Zoms rfl rfl<|Zomi rfl rfl<|Zo (X.idxS (hs.keep hk) Zu43 Zs5 rfl rfl ⟨by omega, by omega⟩) rfl<|Zo (X.loadS Zi5 (hs.keep hk) hx rfl (fun _ h => by rw [h.1]; rfl)) rfl ?_
      refine X.opP X.wN rfl rfl (X.lss rfl rfl) (fun h52 => ?_) (fun h52 => ?_)
      ·refine Ze<|Zt rfl<|Zs<|Zr<|Zomu rfl rfl<|Zomi rfl rfl<|Zo (X.add rfl rfl (X.w_i64 Zz)) rfl<|Zoau rfl rfl<|Zoai rfl rfl<|Zoa rfl rfl<|Ze<|X.ret3 (v1 := (.int .u64 _)) (v2 := (.int .i64 _)) (v3 := (.int .i64 _)) Zf112 Zr112 rfl rfl rfl ?_
       first
       | exact ⟨by rw [← hp]; rfl, hk⟩
       | exact ⟨by rw [← hp, pNum, if_pos Zz]; rfl, hk⟩
       | exact ⟨by rw [← hp, pNum, if_neg Zz, if_pos Zz]; simp only [told, cnt, code, Option.isSome_some, if_true]; rw [List.length_drop, show ((n : Nat) : Int) - ((l.length - (i + 1) : Nat) : Int) = (i : Int) + 1 by omega], hk⟩
      ·refine Ze<|Zf rfl<|Zk<|Zr<|Zomu rfl rfl<|Zo (X.mul (c := ((128 ^ (i + 1) : Nat) : Int)) rfl rfl zq11) rfl ?_
       refine Zoau rfl rfl<|Ze<|Zi<|Zr<|Zomi rfl rfl<|Zo (X.add rfl rfl (X.w_i64 Zz)) rfl<|Zoai rfl rfl<|Ze ?_
       refine hback (i + 1, acc + y.toNat % 128 * 128 ^ i) _ _ ⟨rfl, rfl, rfl, rfl, trivial⟩ ⟨by dsimp only; omega, by have := (num_bound y hi0 ha Zz).2.2 Zz; dsimp only; omega, (num_bound y hi0 ha Zz).2.1, by dsimp only; rw [← hp, pNum, if_neg Zz, if_neg Zz], hk⟩ (by dsimp only; omega)
    ·refine Zg (Zdmf rfl) rfl rfl rfl rfl<|Zp rfl rfl rfl<|Zp rfl rfl rfl<|Zp rfl rfl rfl<|Zp rfl rfl rfl<|Zp rfl rfl rfl<|Zg (ZdFf rfl rfl) rfl rfl rfl rfl<|Zo (ZdFf rfl rfl) rfl<|Ze<|Zf rfl<|Zk<|Zs<|Zr<|Zomu rfl rfl<|Zoms rfl rfl<|Zomi rfl rfl<|Zo (X.idxS (hs.keep hk) Zu43 Zs5 rfl rfl ⟨by omega, by omega⟩) rfl<|Zo (X.loadS Zi5 (hs.keep hk) hx rfl (fun _ h => by rw [h.1]; rfl)) rfl ?_
     refine Zo (X.rem (c := ((y.toNat % 128 : Nat) : Int)) rfl rfl (by decide) rfl) rfl<|Zo (X.cvI Zu5 Zu119 rfl (X.w_u64 Zz)) rfl<|Zomu rfl rfl<|Zo (X.mul (c := ((y.toNat % 128 * 128 ^ i : Nat) : Int)) rfl rfl (mul_n _ _ (Nat.lt_of_le_of_lt (Nat.le_add_left _ acc) (num_bound y hi0 ha Zz).1))) rfl<|Zo (X.add (c := ((acc + y.toNat % 128 * 128 ^ i : Nat) : Int)) rfl rfl (add_n _ _ (num_bound y hi0 ha Zz).1)) rfl<|Zoau rfl rfl<|Ze<|Zs<|Zs<|Zr<|Zoms rfl rfl<|Zomi rfl rfl<|Zo (X.idxS (hs.keep hk) Zu43 Zs5 rfl rfl ⟨by omega, by omega⟩) rfl<|Zo (X.loadS Zi5 (hs.keep hk) hx rfl (fun _ h => by rw [h.1]; rfl)) rfl ?_
     refine X.opP X.wN rfl rfl (X.lss rfl rfl) (fun h52 => ?_) (fun h52 => ?_)
     ·refine Ze<|Zt rfl<|Zs<|Zr<|Zomu rfl rfl<|Zomi rfl rfl<|Zo (X.add rfl rfl (X.w_i64 Zz)) rfl<|Zoau rfl rfl<|Zoai rfl rfl<|Zoa rfl rfl<|Ze<|X.ret3 (v1 := (.int .u64 _)) (v2 := (.int .i64 _)) (v3 := (.int .i64 _)) Zf112 Zr112 rfl rfl rfl ?_
      first
      | exact ⟨by rw [← hp]; rfl, hk⟩
      | exact ⟨by rw [← hp, pNum, if_pos Zz]; rfl, hk⟩
      | exact ⟨by rw [← hp, pNum, if_neg Zz, if_pos Zz]; simp only [told, cnt, code, Option.isSome_some, if_true]; rw [List.length_drop, show ((n : Nat) : Int) - ((l.length - (i + 1) : Nat) : Int) = (i : Int) + 1 by omega], hk⟩
     ·refine Ze<|Zf rfl<|Zk<|Zr<|Zomu rfl rfl<|Zo (X.mul (c := ((128 ^ (i + 1) : Nat) : Int)) rfl rfl zq11) rfl ?_
      refine Zoau rfl rfl<|Ze<|Zi<|Zr<|Zomi rfl rfl<|Zo (X.add rfl rfl (X.w_i64 Zz)) rfl<|Zoai rfl rfl<|Ze ?_
      refine hback (i + 1, acc + y.toNat % 128 * 128 ^ i) _ _ ⟨rfl, rfl, rfl, rfl, trivial⟩ ⟨by dsimp only; omega, by have := (num_bound y hi0 ha Zz).2.2 Zz; dsimp only; omega, (num_bound y hi0 ha Zz).2.1, by dsimp only; rw [← hp, pNum, if_neg Zz, if_neg Zz], hk⟩ (by dsimp only; omega)
  ·omega
 ·rw [List.drop_of_length_le Zz, pNum] at hp
  refine Zomf rfl rfl<|Zp rfl rfl rfl<|Zp rfl rfl rfl<|Zo (ZdFf rfl rfl) rfl<|Ze<|Zf rfl<|Zx rfl<|Zs<|Zr<|Zoa rfl rfl<|Zoa rfl rfl<|Zoa rfl rfl<|Ze<|X.ret3 (v1 := (.int .u64 _)) (v2 := (.int .i64 _)) (v3 := (.int .i64 _)) Zf112 Zr112 rfl rfl rfl ?_
  first
  | exact ⟨by rw [← hp]; rfl, hk⟩
  | exact ⟨by rw [← hp, pNum, if_pos Zz]; rfl, hk⟩
  | exact ⟨by rw [← hp, pNum, if_neg Zz, if_pos Zz]; simp only [told, cnt, code, Option.isSome_some, if_true]; rw [List.length_drop, show ((n : Nat) : Int) - ((l.length - (i + 1) : Nat) : Int) = (i : Int) + 1 by omega], hk⟩
theorem told_lt (l : List UInt8) : told (pNum 0 0 l) 0 < 18446744073709551616 := by
  cases hp : pNum 0 0 l with
  | none => simp [told]
  | some b => exact pNum_lt l 0 0 b Zz (by simp) hp
theorem told_int (l : List UInt8) (n : Nat) : told (pInt l) 0 = unzig (told (pNum 0 0 l) 0) ∧ cnt (pInt l) n = cnt (pNum 0 0 l) n ∧ code (pInt l) = code (pNum 0 0 l) := by
  rw [pInt]
  cases pNum 0 0 l with
  | none => exact ⟨rfl, rfl, rfl⟩
  | some b => exact ⟨rfl, rfl, rfl⟩
theorem quo2 (a : Nat) (h : a < 18446744073709551616) : IntKind.u64.wrap (((a : Nat) : Int).tdiv 2) = ((a / 2 : Nat) : Int) := by
  show IntKind.u64.wrap ((a / 2 : Nat) : Int) = _
  exact w_u64 Zz
theorem RTakeInt_c {lo hi : Nat} {A : Option Addr} {n c : Nat} {l : List UInt8} (w : World) (hs : Sl KB lo hi w A n l) (hnc : n ≤ c) (hn : n ≤ 1000000) : Ret Tryz.prog 150 #[.slice A n c] w fun r w' => r = .tuple #[.int .i64 (told (pInt l) 0), .int .i64 (cnt (pInt l) n), .int .i64 (code (pInt l))] ∧ Keep w w' := by
 have hl := hs.len
 have hlt := told_lt l
 obtain ⟨hi1, hi2, hi3⟩ := told_int l n
 refine X.enter Tryz.func150 rfl Tryz.ntmps150 rfl<|Zs<|Zr<|Zoa rfl rfl<|Zoa rfl rfl<|Zoa rfl rfl<|Ze<|Zs<|Zr<|Zoms rfl rfl<|Zc (X.callE (RTakeNum_c _ hs Zz Zz) Zc112 rfl rfl) rfl ?_
 rintro _ w1 ⟨rfl, hk1⟩
 have hk1' := hk1.size
 refine Zom rfl rfl<|Zo (X.extr rfl rfl) rfl<|Zo (X.extr rfl rfl) rfl<|Zo (X.extr rfl rfl) rfl<|Zoau rfl rfl<|Zoai rfl rfl<|Zoai rfl rfl<|Ze<|Zs<|Zs<|Zr<|Zomu rfl rfl<|Zo (X.rem (c := ((told (pNum 0 0 l) 0 % 2 : Nat) : Int)) rfl rfl (by decide) rfl) rfl<|X.opP X.wN rfl rfl (X.eqI rfl rfl) (fun h16 => ?_) (fun h16 => ?_)
 ·refine Ze<|Zt rfl<|Zs<|Zr<|Zomu rfl rfl<|Zo (X.quo rfl rfl (by decide) (quo2 _ hlt)) rfl<|Zo (X.cvI Zu119 Zu2 rfl (X.w_i64 Zz)) rfl<|Zo (X.neg rfl (X.w_i64 Zz)) rfl<|Zo (X.sub rfl rfl (X.w_i64 Zz)) rfl<|Zomi rfl rfl<|Zomi rfl rfl<|Zoai rfl rfl<|Zoai rfl rfl<|Zoai rfl rfl<|Ze<|X.ret3 (v1 := (.int .i64 _)) (v2 := (.int .i64 _)) (v3 := (.int .i64 _)) Tryz.func150 Tryz.results150 rfl rfl rfl ?_
  refine ⟨?_, hk1⟩
  rw [hi1, hi2, hi3]
  unfold unzig
  rw [if_neg Zz, Int.zero_sub]
 ·refine Ze<|Zf rfl<|Zk<|Zs<|Zr<|Zomu rfl rfl<|Zo (X.quo rfl rfl (by decide) (quo2 _ hlt)) rfl<|Zo (X.cvI Zu119 Zu2 rfl (X.w_i64 Zz)) rfl<|Zomi rfl rfl<|Zomi rfl rfl<|Zoai rfl rfl<|Zoai rfl rfl<|Zoai rfl rfl<|Ze<|X.ret3 (v1 := (.int .i64 _)) (v2 := (.int .i64 _)) (v3 := (.int .i64 _)) Tryz.func150 Tryz.results150 rfl rfl rfl ?_
  refine ⟨?_, hk1⟩
  rw [hi1, hi2, hi3]
  unfold unzig
  rw [if_pos Zz]
theorem cnt_bd (l : List UInt8) : 0 ≤ cnt (pNum 0 0 l) l.length ∧ cnt (pNum 0 0 l) l.length ≤ (l.length : Int) := by
  cases hp : pNum 0 0 l with
  | none => simp [cnt]
  | some b =>
    have hj := pNum_j hp
    have hl : l.length = (numB b.1).length + b.2.length := by conv => lhs; rw [hj]; rw [List.length_append]
    simp only [cnt]; omega
theorem pText_none {most : Int} {l : List UInt8} (h : code (pNum 0 0 l) ≠ 0 ∨ most < 0 ∨ most < ((told (pNum 0 0 l) 0 : Nat) : Int) ∨ 1048576 < told (pNum 0 0 l) 0 ∨ (l.length : Int) - cnt (pNum 0 0 l) l.length < ((told (pNum 0 0 l) 0 : Nat) : Int)) : pText most l = none := by
  unfold pText
  cases hp : pNum 0 0 l with
  | none => rfl
  | some b =>
    obtain ⟨a, ys⟩ := b
    rw [hp] at h
    simp only [told, cnt, code, Option.isSome_some, if_true] at h
    dsimp only
    rw [if_pos Zz]
theorem pText_some {most : Int} {l : List UInt8} (h0 : code (pNum 0 0 l) = 0) (h1 : ¬ most < 0) (h2 : ¬ most < ((told (pNum 0 0 l) 0 : Nat) : Int)) (h3 : ¬ 1048576 < told (pNum 0 0 l) 0) (h4 : ¬ (l.length : Int) - cnt (pNum 0 0 l) l.length < ((told (pNum 0 0 l) 0 : Nat) : Int)) :
    ∃ k a : Nat, cnt (pNum 0 0 l) l.length = (k : Int) ∧ told (pNum 0 0 l) 0 = a ∧ k + a ≤ l.length ∧ pText most l = some ((l.drop k).take a, l.drop (k + a)) := by
  unfold pText
  cases hp : pNum 0 0 l with
  | none => rw [hp] at h0; simp [code] at h0
  | some b =>
    obtain ⟨a, ys⟩ := b
    have hj := pNum_j hp
    rw [hp] at h2 h3 h4
    simp only [told, cnt] at h2 h3 h4 ⊢
    have hl : l.length = (numB a).length + ys.length := by conv => lhs; rw [hj]; rw [List.length_append]
    have hd : l.drop (numB a).length = ys := by conv => lhs; rw [hj]; simp
    refine ⟨(numB a).length, a, by omega, rfl, by omega, ?_⟩
    rw [if_neg Zz, hd, ← List.drop_drop, hd]
theorem RTakeText_c (most : Int) (hmo : okI most) {lo hi : Nat} {A : Option Addr} {n c : Nat} {l : List UInt8} (w : World) (hs : Sl KB lo hi w A n l) (hnc : n ≤ c) (hn : n ≤ 1000000) : Ret Tryz.prog 115 #[.slice A n c, .int .i64 most] w fun r w' => ∃ v, r = .tuple #[v, .int .i64 (cnt (pText most l) n), .int .i64 (code (pText most l))] ∧ Mine KB 5 (fun k => w.heap.size ≤ k) 0 0 w' v (told (pText most l) []) ∧ Keep w w' := by
 have hl := hs.len
 have hlt := told_lt l
 have hcb := cnt_bd l
 rw [hl] at hcb
 unfold okI at hmo
 refine X.enter Zf115 rfl Tryz.ntmps115 rfl<|Zs<|Zr<|Zoa rfl rfl<|Zoa rfl rfl<|Zoa rfl rfl<|Ze<|Zs<|Zr<|Zoms rfl rfl<|Zc (X.callE (RTakeNum_c _ hs Zz Zz) Zc112 rfl rfl) rfl ?_
 rintro _ w1 ⟨rfl, hk1⟩
 have hk1' := hk1.size
 refine Zom rfl rfl<|Zo (X.extr rfl rfl) rfl<|Zo (X.extr rfl rfl) rfl<|Zo (X.extr rfl rfl) rfl<|Zoau rfl rfl<|Zoai rfl rfl<|Zoai rfl rfl<|Ze<|Zs<|Zs<|Zr<|Zomi rfl rfl<|X.opP X.wN rfl rfl (X.neI rfl rfl) (fun h17 => ?_) (fun h17 => ?_)
 ·refine Zomt rfl rfl<|Zp rfl rfl rfl<|Zp rfl rfl rfl<|Zo (ZdTt rfl rfl) rfl<|Zomt rfl rfl<|Zp rfl rfl rfl<|Zp rfl rfl rfl<|Zp rfl rfl rfl<|Zp rfl rfl rfl<|Zo (ZdTt rfl rfl) rfl<|Zomt rfl rfl<|Zp rfl rfl rfl<|Zp rfl rfl rfl<|Zo (ZdTt rfl rfl) rfl<|Zomt rfl rfl<|Zp rfl rfl rfl<|Zp rfl rfl rfl<|Zp rfl rfl rfl<|Zp rfl rfl rfl<|Zp rfl rfl rfl<|Zp rfl rfl rfl<|Zp rfl rfl rfl<|Zo (ZdTt rfl rfl) rfl<|Ze<|Zt rfl<|Zs<|Zr<|Zoa rfl rfl<|Zoa rfl rfl<|Zoa rfl rfl<|Ze<|X.ret3 (v2 := (.int .i64 _)) (v3 := (.int .i64 _)) Zf115 Zr115 rfl rfl rfl ?_
  first
  | (have e := pText_none (most := most) (l := l) (by rw [hl]; omega); exact ⟨_, by rw [e]; rfl, by rw [e]; exact (Mine.nil _ _ _ _ _ _), hk1⟩)
  | exact ⟨_, by rw [hpt]; simp only [cnt, code, Option.isSome_some, if_true]; rw [List.length_drop, show ((n : Nat) : Int) - ((l.length - (k + a) : Nat) : Int) = cnt (pNum 0 0 l) n + ((told (pNum 0 0 l) 0 : Nat) : Int) by omega]; have h0 : code (pNum 0 0 l) = 0 := Zz; first | rfl | rw [h0], by rw [hpt]; exact (Mine.nil _ _ _ _ _ _), hk1⟩
 ·refine Zomf rfl rfl<|Zg (Zdmi rfl) rfl rfl rfl rfl<|X.opP (X.wG rfl rfl rfl) rfl rfl (X.lss rfl rfl) (fun h20 => ?_) (fun h20 => ?_)
  ·refine Zo (ZdFt rfl rfl) rfl<|Zomt rfl rfl<|Zp rfl rfl rfl<|Zp rfl rfl rfl<|Zp rfl rfl rfl<|Zp rfl rfl rfl<|Zo (ZdTt rfl rfl) rfl<|Zomt rfl rfl<|Zp rfl rfl rfl<|Zp rfl rfl rfl<|Zo (ZdTt rfl rfl) rfl<|Zomt rfl rfl<|Zp rfl rfl rfl<|Zp rfl rfl rfl<|Zp rfl rfl rfl<|Zp rfl rfl rfl<|Zp rfl rfl rfl<|Zp rfl rfl rfl<|Zp rfl rfl rfl<|Zo (ZdTt rfl rfl) rfl<|Ze<|Zt rfl<|Zs<|Zr<|Zoa rfl rfl<|Zoa rfl rfl<|Zoa rfl rfl<|Ze<|X.ret3 (v2 := (.int .i64 _)) (v3 := (.int .i64 _)) Zf115 Zr115 rfl rfl rfl ?_
   first
   | (have e := pText_none (most := most) (l := l) (by rw [hl]; omega); exact ⟨_, by rw [e]; rfl, by rw [e]; exact (Mine.nil _ _ _ _ _ _), hk1⟩)
   | exact ⟨_, by rw [hpt]; simp only [cnt, code, Option.isSome_some, if_true]; rw [List.length_drop, show ((n : Nat) : Int) - ((l.length - (k + a) : Nat) : Int) = cnt (pNum 0 0 l) n + ((told (pNum 0 0 l) 0 : Nat) : Int) by omega]; have h0 : code (pNum 0 0 l) = 0 := Zz; first | rfl | rw [h0], by rw [hpt]; exact (Mine.nil _ _ _ _ _ _), hk1⟩
  ·refine Zo (ZdFf rfl rfl) rfl<|Zomf rfl rfl<|Zg (Zdmu rfl) rfl rfl rfl rfl<|Zg (Zdmi rfl) rfl rfl rfl rfl<|Zg (X.cvI Zu3 Zu119 rfl (X.w_u64 Zz)) rfl rfl rfl rfl<|X.opP (X.wG rfl rfl rfl) rfl rfl (X.gtr rfl rfl) (fun h26 => ?_) (fun h26 => ?_)
   ·refine Zo (ZdFt rfl rfl) rfl<|Zomt rfl rfl<|Zp rfl rfl rfl<|Zp rfl rfl rfl<|Zo (ZdTt rfl rfl) rfl<|Zomt rfl rfl<|Zp rfl rfl rfl<|Zp rfl rfl rfl<|Zp rfl rfl rfl<|Zp rfl rfl rfl<|Zp rfl rfl rfl<|Zp rfl rfl rfl<|Zp rfl rfl rfl<|Zo (ZdTt rfl rfl) rfl<|Ze<|Zt rfl<|Zs<|Zr<|Zoa rfl rfl<|Zoa rfl rfl<|Zoa rfl rfl<|Ze<|X.ret3 (v2 := (.int .i64 _)) (v3 := (.int .i64 _)) Zf115 Zr115 rfl rfl rfl ?_
    first
    | (have e := pText_none (most := most) (l := l) (by rw [hl]; omega); exact ⟨_, by rw [e]; rfl, by rw [e]; exact (Mine.nil _ _ _ _ _ _), hk1⟩)
    | exact ⟨_, by rw [hpt]; simp only [cnt, code, Option.isSome_some, if_true]; rw [List.length_drop, show ((n : Nat) : Int) - ((l.length - (k + a) : Nat) : Int) = cnt (pNum 0 0 l) n + ((told (pNum 0 0 l) 0 : Nat) : Int) by omega]; have h0 : code (pNum 0 0 l) = 0 := Zz; first | rfl | rw [h0], by rw [hpt]; exact (Mine.nil _ _ _ _ _ _), hk1⟩
   ·refine Zo (ZdFf rfl rfl) rfl<|Zomf rfl rfl<|Zg (Zdmu rfl) rfl rfl rfl rfl<|X.opP (X.wG rfl rfl rfl) rfl rfl (X.gtr rfl rfl) (fun h30 => ?_) (fun h30 => ?_)
    ·refine Zo (ZdFt rfl rfl) rfl<|Zomt rfl rfl<|Zp rfl rfl rfl<|Zp rfl rfl rfl<|Zp rfl rfl rfl<|Zp rfl rfl rfl<|Zp rfl rfl rfl<|Zp rfl rfl rfl<|Zp rfl rfl rfl<|Zo (ZdTt rfl rfl) rfl<|Ze<|Zt rfl<|Zs<|Zr<|Zoa rfl rfl<|Zoa rfl rfl<|Zoa rfl rfl<|Ze<|X.ret3 (v2 := (.int .i64 _)) (v3 := (.int .i64 _)) Zf115 Zr115 rfl rfl rfl ?_
     first
     | (have e := pText_none (most := most) (l := l) (by rw [hl]; omega); exact ⟨_, by rw [e]; rfl, by rw [e]; exact (Mine.nil _ _ _ _ _ _), hk1⟩)
     | exact ⟨_, by rw [hpt]; simp only [cnt, code, Option.isSome_some, if_true]; rw [List.length_drop, show ((n : Nat) : Int) - ((l.length - (k + a) : Nat) : Int) = cnt (pNum 0 0 l) n + ((told (pNum 0 0 l) 0 : Nat) : Int) by omega]; have h0 : code (pNum 0 0 l) = 0 := Zz; first | rfl | rw [h0], by rw [hpt]; exact (Mine.nil _ _ _ _ _ _), hk1⟩
    ·refine Zo (ZdFf rfl rfl) rfl<|Zomf rfl rfl<|Zg (Zdmu rfl) rfl rfl rfl rfl<|Zg (Zdms rfl) rfl rfl rfl rfl<|Zg (X.lenSl Zu43 rfl) rfl rfl rfl rfl<|Zg (Zdmi rfl) rfl rfl rfl rfl<|Zg (X.sub rfl rfl (X.w_i64 Zz)) rfl rfl rfl rfl<|Zg (X.cvI Zu3 Zu119 rfl (X.w_u64 Zz)) rfl rfl rfl rfl<|X.opP (X.wG rfl rfl rfl) rfl rfl (X.gtr rfl rfl) (fun h39 => ?_) (fun h39 => ?_)
     ·refine Zo (ZdFt rfl rfl) rfl<|Ze<|Zt rfl<|Zs<|Zr<|Zoa rfl rfl<|Zoa rfl rfl<|Zoa rfl rfl<|Ze<|X.ret3 (v2 := (.int .i64 _)) (v3 := (.int .i64 _)) Zf115 Zr115 rfl rfl rfl ?_
      first
      | (have e := pText_none (most := most) (l := l) (by rw [hl]; omega); exact ⟨_, by rw [e]; rfl, by rw [e]; exact (Mine.nil _ _ _ _ _ _), hk1⟩)
      | exact ⟨_, by rw [hpt]; simp only [cnt, code, Option.isSome_some, if_true]; rw [List.length_drop, show ((n : Nat) : Int) - ((l.length - (k + a) : Nat) : Int) = cnt (pNum 0 0 l) n + ((told (pNum 0 0 l) 0 : Nat) : Int) by omega]; have h0 : code (pNum 0 0 l) = 0 := Zz; first | rfl | rw [h0], by rw [hpt]; exact (Mine.nil _ _ _ _ _ _), hk1⟩
     ·rw [← hl] at h39
      obtain ⟨k, a, hk1e, hae, hka, hpt⟩ := pText_some (most := most) (l := l) Zz Zz Zz Zz Zz
      rw [hl] at hk1e
      refine Zo (ZdFf rfl rfl) rfl<|Ze<|Zf rfl<|Zk<|Zs<|Zr<|Zc (X.lit0E (K := KB) (S := fun k => w.heap.size ≤ k) Zu43 Zs5 zq27) rfl ?_
      rintro v2 w2 ⟨hM2, hk2, hz2⟩
      refine Zoms rfl rfl<|Zomi rfl rfl<|Zomi rfl rfl<|Zomu rfl rfl<|Zo (X.cvI Zu119 Zu3 rfl (X.w_i64 Zz)) rfl<|Zo (X.add rfl rfl (X.w_i64 Zz)) rfl<|Zo (X.cutLH Zu43 Zs5 rfl rfl rfl Zz) rfl<|Zc (X.appE (K := KB) (S := fun k => w.heap.size ≤ k) KB_flat Zu43 E5 rfl rfl hM2 ((show Sl KB lo hi _ _ _ ((l.drop k).take a) from by have e := (hs.drop k c Zz hnc).take a Zz; have e2 : (cnt (pNum 0 0 l) n + ((told (pNum 0 0 l) 0 : Nat) : Int)).toNat - (cnt (pNum 0 0 l) n).toNat = a := Zz; have e3 : (cnt (pNum 0 0 l) n).toNat = k := Zz; rw [e2, e3]; exact e).keep (hk1.trans hk2)) zq8 zq27) rfl ?_
      rintro v3 w3 ⟨hM3, hx3⟩
      have hx3' := hx3.size
      refine Zomi rfl rfl<|Zomu rfl rfl<|Zo (X.cvI Zu119 Zu3 rfl (X.w_i64 Zz)) rfl<|Zo (X.add rfl rfl (X.w_i64 Zz)) rfl<|Zoa rfl rfl<|Zoai rfl rfl<|Zoa rfl rfl<|Ze<|X.ret3 (v2 := (.int .i64 _)) (v3 := (.int .i64 _)) Zf115 Zr115 rfl rfl rfl ?_
      first
      | (have e := pText_none (most := most) (l := l) (by rw [hl]; omega); exact ⟨_, by rw [e]; rfl, by rw [e]; exact hM3, ((hk1.trans hk2).step hx3 zq27)⟩)
      | exact ⟨_, by rw [hpt]; simp only [cnt, code, Option.isSome_some, if_true]; rw [List.length_drop, show ((n : Nat) : Int) - ((l.length - (k + a) : Nat) : Int) = cnt (pNum 0 0 l) n + ((told (pNum 0 0 l) 0 : Nat) : Int) by omega]; have h0 : code (pNum 0 0 l) = 0 := Zz; first | rfl | rw [h0], by rw [hpt]; exact hM3, ((hk1.trans hk2).step hx3 zq27)⟩
theorem pVal_c1 {c : UInt8} {xs : List UInt8} (h : c.toNat = 1) : pVal (c :: xs) = (pInt xs).map fun b => ((1, b.1, ⟨#[]⟩), b.2) := by rw [pVal, if_pos h]
theorem pVal_c2 {c : UInt8} {xs : List UInt8} (h : c.toNat = 2) : pVal (c :: xs) = (pText 256 xs).map fun b => ((2, 0, ⟨b.1.toArray⟩), b.2) := by rw [pVal, if_neg Zz, if_pos h]
theorem pVal_c3 {c : UInt8} {xs : List UInt8} (h : c.toNat ≠ 1) (h2 : c.toNat ≠ 2) : pVal (c :: xs) = none := by rw [pVal, if_neg h, if_neg h2]
theorem cnt_bdT (most : Int) (l : List UInt8) : 0 ≤ cnt (pText most l) l.length ∧ cnt (pText most l) l.length ≤ (l.length : Int) := by
  cases hp : pText most l with
  | none => simp [cnt]
  | some b =>
    obtain ⟨hj, _⟩ := pText_just hp
    have hl : l.length = (textB b.1).length + b.2.length := by conv => lhs; rw [hj]; rw [List.length_append]
    simp only [cnt]; omega
theorem code_eq {α β : Type} {o : Option (α × List UInt8)} {q : Option (β × List UInt8)} (h : o.isSome = q.isSome) : code o = code q := by rw [code, code, h]
theorem takeOne_c {lo hi : Nat} {A : Option Addr} {n c : Nat} {l : List UInt8} (w : World) (hs : Sl KB lo hi w A n l) (hnc : n ≤ c) (hn : n ≤ 1000000) : Ret Tryz.prog 174 #[.slice A n c] w fun r w' => (∃ u k, r = .tuple #[.agg (encV u).toArray, .int .i64 k, .int .i64 (code (pVal l))] ∧ ∀ b, pVal l = some b → u = b.1 ∧ k = cnt (pVal l) n) ∧ Keep w w' := by
 have hl := hs.len
 refine X.enter Zf174 rfl Tryz.ntmps174 rfl<|Zs<|Zr<|Zc (X.allocE Zv90 rfl) rfl ?_
 rintro _ w1 ⟨rfl, hB1, hk1, hz1⟩
 refine Zoa rfl rfl<|Zoa rfl rfl<|Ze<|Zs<|Zs<|Zr<|Zoms rfl rfl<|Zo (X.lenSl Zu43 rfl) rfl<|X.opP X.wN rfl rfl (X.eqI rfl rfl) (fun h13 => ?_) (fun h13 => ?_)
 ·refine Ze<|Zt rfl<|Zs<|Zr<|Zo (X.buildB (vs := []) (cs := (encV (0, 0, ⟨#[]⟩)).toArray) rfl Zl) rfl<|Zc (X.storeNE Zs90 hB1 rfl rfl rfl rfl (encV_one _)) rfl ?_
  rintro _ w2 ⟨hB2, hx2, hz2⟩
  refine Zoa rfl rfl<|Zoa rfl rfl<|Ze ?_
  refine X.ret_unw (X.unwR3 Zf174 Zr174 (X.ResOk.cell rfl (X.lvN Zi90 Zs90 hB2 rfl)) (show X.ResOk _ _ _ (.tmp 3) (.int .i64 _) from rfl) (show X.ResOk _ _ _ (.tmp 4) (.int .i64 _) from rfl) ?_)
  exact ⟨⟨(0, 0, ⟨#[]⟩), 0, by rw [show l = [] from List.eq_nil_of_length_eq_zero Zz]; rfl, by rw [show l = [] from List.eq_nil_of_length_eq_zero Zz]; intro b hb; cases hb⟩, (hk1.step hx2 zq27)⟩
 ·obtain ⟨x0, ys0, rfl⟩ : ∃ x ys, l = x :: ys := by
    cases l with
    | nil => exact absurd (by rw [← hl]; rfl) h13
    | cons x ys => exact ⟨x, ys, rfl⟩
  have hu0 := x0.toNat_lt
  have hl9 : ys0.length + 1 = n := by simpa using hl
  have hcb := cnt_bd ys0
  have hci := (told_int ys0 (n - 1)).2.1
  rw [show ys0.length = n - 1 by omega] at hcb
  rw [← hci] at hcb
  have hcT := cnt_bdT 256 ys0
  rw [show ys0.length = n - 1 by omega] at hcT
  refine Ze<|Zf rfl<|Zk<|Zs<|Zs<|Zr<|Zoms rfl rfl<|Zo (X.idxS (hs.keep hk1) Zu43 Zs5 rfl rfl ⟨by omega, by omega⟩) rfl<|Zo (X.loadS Zi5 (hs.keep hk1) (j := 0) rfl rfl (fun _ h => by rw [h.1]; rfl)) rfl ?_
  refine Ze<|Zb<|Zs<|Zr<|X.opP X.wN rfl rfl (X.eqI rfl rfl) (fun h19 => ?_) (fun h19 => ?_)
  ·refine Zoat rfl rfl<|Ze<|Zt rfl<|Zs<|Zr<|Zoms rfl rfl<|Zo (X.cutL Zu43 Zs5 rfl rfl Zz) rfl<|Zc (X.callE (RTakeInt_c _ ((show Sl KB lo hi w _ _ ys0 from hs.drop 1 c Zz Zz).keep hk1) Zz Zz) Tryz.call150 rfl rfl) rfl ?_
   rintro _ w3 ⟨rfl, hk3⟩
   have hk3' := hk3.size
   refine Zom rfl rfl<|Zo (X.extr rfl rfl) rfl<|Zo (X.extr rfl rfl) rfl<|Zo (X.extr rfl rfl) rfl<|Zoai rfl rfl<|Zoai rfl rfl<|Zoai rfl rfl<|Ze<|Zs<|Zr<|Zomi rfl rfl<|Zo (X.buildB (vs := [(0, .int .i64 1), (1, .int .i64 (told (pInt ys0) 0))]) (cs := (encV (1, told (pInt ys0) 0, ⟨#[]⟩)).toArray) rfl Zl) rfl<|Zomi rfl rfl<|Zo (X.add rfl rfl (X.w_i64 Zz)) rfl<|Zomi rfl rfl<|Zc (X.storeNE Zs90 (hB1.keep hk3) rfl rfl rfl rfl (encV_one _)) rfl ?_
   rintro _ w4 ⟨hB4, hx4, hz4⟩
   refine Zoai rfl rfl<|Zoai rfl rfl<|Ze ?_
   refine X.ret_unw (X.unwR3 Zf174 Zr174 (X.ResOk.cell rfl (X.lvN Zi90 Zs90 hB4 rfl)) (show X.ResOk _ _ _ (.tmp 3) (.int .i64 _) from rfl) (show X.ResOk _ _ _ (.tmp 4) (.int .i64 _) from rfl) ?_)
   refine ⟨⟨(1, told (pInt ys0) 0, ⟨#[]⟩), cnt (pInt ys0) (n - 1) + 1, by rw [code_eq (o := pVal (x0 :: ys0)) (q := pInt ys0) (by rw [pVal_c1 Zz]; cases pInt ys0 <;> rfl)], ?_⟩, ((hk1.trans hk3).step hx4 zq27)⟩
   intro b hb
   rw [pVal_c1 Zz] at hb ⊢
   obtain ⟨q, hq, rfl⟩ := Option.map_eq_some_iff.1 hb
   rw [hq]
   simp only [told, cnt, Option.map_some]
   exact ⟨trivial, by omega⟩
  ·refine Zoaf rfl rfl<|Ze<|Zf rfl<|Zs<|Zr<|X.opP X.wN rfl rfl (X.eqI rfl rfl) (fun h33 => ?_) (fun h33 => ?_)
   ·refine Zoat rfl rfl<|Ze<|Zt rfl<|Zs<|Zr<|Zoms rfl rfl<|Zo (X.cutL Zu43 Zs5 rfl rfl Zz) rfl<|Zc (X.callE (RTakeText_c 256 (by simp [okI]) _ ((show Sl KB lo hi w _ _ ys0 from hs.drop 1 c Zz Zz).keep hk1) Zz Zz) Tryz.call115 rfl rfl) rfl ?_
    rintro _ w5 ⟨v5, rfl, hM5, hk5⟩
    have hk5' := hk5.size
    refine Zom rfl rfl<|Zo (X.extr rfl rfl) rfl<|Zo (X.extr rfl rfl) rfl<|Zo (X.extr rfl rfl) rfl<|Zoa rfl rfl<|Zoai rfl rfl<|Zoai rfl rfl<|Ze<|Zs<|Zr<|Zom rfl rfl ?_
    have q6 := hM5.slF KB_flat 0 (fun _ _ => Nat.zero_le _)
    obtain ⟨A6, c6, rfl, hc6, hs6⟩ := q6
    refine Zo (X.str Zu43 Zu5 Zu9 rfl KB_is rfl hs6) rfl<|Zo (X.buildB (vs := [(0, .int .i64 2), (2, .string ⟨(told (pText 256 ys0) []).toArray⟩)]) (cs := (encV (2, 0, ⟨(told (pText 256 ys0) []).toArray⟩)).toArray) rfl Zl) rfl<|Zomi rfl rfl<|Zo (X.add rfl rfl (X.w_i64 Zz)) rfl<|Zomi rfl rfl<|Zc (X.storeNE Zs90 (hB1.keep hk5) rfl rfl rfl rfl (encV_one _)) rfl ?_
    rintro _ w7 ⟨hB7, hx7, hz7⟩
    refine Zoai rfl rfl<|Zoai rfl rfl<|Ze ?_
    refine X.ret_unw (X.unwR3 Zf174 Zr174 (X.ResOk.cell rfl (X.lvN Zi90 Zs90 hB7 rfl)) (show X.ResOk _ _ _ (.tmp 3) (.int .i64 _) from rfl) (show X.ResOk _ _ _ (.tmp 4) (.int .i64 _) from rfl) ?_)
    refine ⟨⟨(2, 0, ⟨(told (pText 256 ys0) []).toArray⟩), cnt (pText 256 ys0) (n - 1) + 1, by rw [code_eq (o := pVal (x0 :: ys0)) (q := pText 256 ys0) (by rw [pVal_c2 Zz]; cases pText 256 ys0 <;> rfl)], ?_⟩, ((hk1.trans hk5).step hx7 zq27)⟩
    intro b hb
    rw [pVal_c2 Zz] at hb ⊢
    obtain ⟨q, hq, rfl⟩ := Option.map_eq_some_iff.1 hb
    rw [hq]
    simp only [told, cnt, Option.map_some]
    exact ⟨trivial, by omega⟩
   ·refine Zoaf rfl rfl<|Ze<|Zf rfl<|Zk<|Zi<|Zs<|Zr<|Zo (X.buildB (vs := []) (cs := (encV (0, 0, ⟨#[]⟩)).toArray) rfl Zl) rfl<|Zc (X.storeNE Zs90 hB1 rfl rfl rfl rfl (encV_one _)) rfl ?_
    rintro _ w8 ⟨hB8, hx8, hz8⟩
    refine Zoa rfl rfl<|Zoa rfl rfl<|Ze ?_
    refine X.ret_unw (X.unwR3 Zf174 Zr174 (X.ResOk.cell rfl (X.lvN Zi90 Zs90 hB8 rfl)) (show X.ResOk _ _ _ (.tmp 3) (.int .i64 _) from rfl) (show X.ResOk _ _ _ (.tmp 4) (.int .i64 _) from rfl) ?_)
    refine ⟨⟨(0, 0, ⟨#[]⟩), 0, by rw [pVal_c3 Zz Zz]; rfl, ?_⟩, (hk1.step hx8 zq27)⟩
    intro b hb
    rw [pVal_c3 Zz Zz] at hb
    cases hb
theorem pVal_suffix {l : List UInt8} {b : VAL × List UInt8} (h : pVal l = some b) : ∃ k : Nat, (l.length : Int) - (b.2.length : Int) = (k : Int) ∧ b.2 = l.drop k ∧ k ≤ l.length ∧ 1 ≤ k ∧ okV b.1 := by
  obtain ⟨hj, _, ho⟩ := pVal_just h
  have hl : l.length = (valB b.1).length + b.2.length := by conv => lhs; rw [hj]; rw [List.length_append]
  have h1 : 1 ≤ (valB b.1).length := by unfold valB; split <;> simp
  refine ⟨(valB b.1).length, by omega, ?_, by omega, h1, ho⟩
  conv => rhs; rw [hj]
  simp
theorem code_0 {α : Type} {o : Option (α × List UInt8)} (h : ¬ code o ≠ 0) : ∃ b, o = some b := by
  cases o with
  | none => simp [code] at h
  | some b => exact ⟨b, rfl⟩
theorem code_1 {α : Type} {o : Option (α × List UInt8)} (h : code o ≠ 0) : o = none := by
  cases o with
  | none => rfl
  | some b => simp [code] at h
theorem RTakeTuple_c {lo hi : Nat} {A : Option Addr} {n c : Nat} {l : List UInt8} (w : World) (hs : Sl KB lo hi w A n l) (hnc : n ≤ c) (hn : n ≤ 1000000) : Ret Tryz.prog 149 #[.slice A n c] w fun r w' => ∃ v, r = .tuple #[v, .int .i64 (cnt (pTup l) n), .int .i64 (code (pTup l))] ∧ Mine KV 90 (fun k => w.heap.size ≤ k) 0 0 w' v (told (pTup l) []) ∧ Keep w w' := by
 have hl := hs.len
 refine X.enter Zf149 rfl Tryz.ntmps149 rfl<|Zs<|Zr<|Zoa rfl rfl<|Zoa rfl rfl<|Zoa rfl rfl<|Ze<|Zs<|Zs<|Zr<|Zoms rfl rfl<|Zo (X.lenSl Zu43 rfl) rfl<|X.opP X.wN rfl rfl (X.eqI rfl rfl) (fun h13 => ?_) (fun h13 => ?_)
 ·refine Zomt rfl rfl<|Zp rfl rfl rfl<|Zp rfl rfl rfl<|Zp rfl rfl rfl<|Zp rfl rfl rfl<|Zo (ZdTt rfl rfl) rfl<|Ze<|Zt rfl<|Zs<|Zr<|Zoa rfl rfl<|Zoa rfl rfl<|Zoa rfl rfl<|Ze<|X.ret3 (v2 := (.int .i64 _)) (v3 := (.int .i64 _)) Zf149 Zr149 rfl rfl rfl ?_
  first
  | exact ⟨_, by rw [show l = [] from List.eq_nil_of_length_eq_zero Zz]; rfl, by rw [show l = [] from List.eq_nil_of_length_eq_zero Zz]; exact (Mine.nil _ _ _ _ _ _), (Keep.refl _)⟩
  | (have e : pTup (x0 :: ys0) = none := by rw [pTup, if_pos Zz]
     exact ⟨_, by rw [e]; rfl, by rw [e]; exact (Mine.nil _ _ _ _ _ _), (Keep.refl _)⟩)
  | (have e : pTup (x0 :: ys0) = none := by rw [pTup, if_neg Zz, ← hp]; rfl
     exact ⟨_, by rw [e]; rfl, by rw [e]; exact (Mine.nil _ _ _ _ _ _), (Keep.refl _)⟩)
  | (have e : pTup (x0 :: ys0) = some (s, (x0 :: ys0).drop at_) := by rw [pTup, if_neg Zz, ← hp, show x0.toNat - i = 0 by omega, pVals]; simp
     exact ⟨_, by rw [e]; simp only [cnt, code, Option.isSome_some, if_true]; rw [List.length_drop, show ((n : Nat) : Int) - (((x0 :: ys0).length - at_ : Nat) : Int) = (at_ : Int) by omega], by rw [e]; exact (Mine.nil _ _ _ _ _ _), (Keep.refl _)⟩)
 ·obtain ⟨x0, ys0, rfl⟩ : ∃ x ys, l = x :: ys := by
    cases l with
    | nil => exact absurd (by rw [← hl]; rfl) h13
    | cons x ys => exact ⟨x, ys, rfl⟩
  have hu0 := x0.toNat_lt
  have hl9 : ys0.length + 1 = n := by simpa using hl
  refine Zomf rfl rfl<|Zg (Zdms rfl) rfl rfl rfl rfl<|Zg (X.idxS hs Zu43 Zs5 rfl rfl ⟨by omega, by omega⟩) rfl rfl rfl rfl<|Zg (X.loadS Zi5 hs (j := 0) rfl rfl (fun _ h => by rw [h.1]; rfl)) rfl rfl rfl rfl ?_
  refine X.opP (X.wG rfl rfl rfl) rfl rfl (X.gtr rfl rfl) (fun h18 => ?_) (fun h18 => ?_)
  ·refine Zo (ZdFt rfl rfl) rfl<|Ze<|Zt rfl<|Zs<|Zr<|Zoa rfl rfl<|Zoa rfl rfl<|Zoa rfl rfl<|Ze<|X.ret3 (v2 := (.int .i64 _)) (v3 := (.int .i64 _)) Zf149 Zr149 rfl rfl rfl ?_
   first
   | exact ⟨_, by rw [show l = [] from List.eq_nil_of_length_eq_zero Zz]; rfl, by rw [show l = [] from List.eq_nil_of_length_eq_zero Zz]; exact (Mine.nil _ _ _ _ _ _), (Keep.refl _)⟩
   | (have e : pTup (x0 :: ys0) = none := by rw [pTup, if_pos Zz]
      exact ⟨_, by rw [e]; rfl, by rw [e]; exact (Mine.nil _ _ _ _ _ _), (Keep.refl _)⟩)
   | (have e : pTup (x0 :: ys0) = none := by rw [pTup, if_neg Zz, ← hp]; rfl
      exact ⟨_, by rw [e]; rfl, by rw [e]; exact (Mine.nil _ _ _ _ _ _), (Keep.refl _)⟩)
   | (have e : pTup (x0 :: ys0) = some (s, (x0 :: ys0).drop at_) := by rw [pTup, if_neg Zz, ← hp, show x0.toNat - i = 0 by omega, pVals]; simp
      exact ⟨_, by rw [e]; simp only [cnt, code, Option.isSome_some, if_true]; rw [List.length_drop, show ((n : Nat) : Int) - (((x0 :: ys0).length - at_ : Nat) : Int) = (at_ : Int) by omega], by rw [e]; exact (Mine.nil _ _ _ _ _ _), (Keep.refl _)⟩)
  ·refine Zo (ZdFf rfl rfl) rfl<|Ze<|Zf rfl<|Zk<|Zs<|Zr<|Zoa rfl rfl<|Ze<|Zs<|Zr<|Zoa rfl rfl<|Ze<|Zs<|Zs<|Zr<|Zoa rfl rfl<|Ze<|Zb<|X.loopL (σ := Nat × Nat × Value × List VAL) (fun s => [(0, .slice A n c), (5, s.2.2.1), (6, .int .i64 (s.2.1 : Int)), (7, .int .i64 (s.1 : Int))]) (fun s w' => s.1 ≤ x0.toNat ∧ s.2.1 ≤ n ∧ s.2.2.2.length = s.1 ∧ (∀ u ∈ s.2.2.2, okV u) ∧ Mine KV 90 (fun k => w.heap.size ≤ k) 0 0 w' s.2.2.1 s.2.2.2 ∧ ((pVals (x0.toNat - s.1) ((x0 :: ys0).drop s.2.1)).map fun b => (s.2.2.2 ++ b.1, b.2)) = pVals x0.toNat ys0 ∧ Keep w w') (fun s => x0.toNat - s.1) (0, 1, _, []) ⟨rfl, rfl, rfl, rfl, trivial⟩ ⟨Nat.zero_le _, by dsimp only; omega, rfl, by simp, (Mine.nil _ _ _ _ _ _), by simp, (Keep.refl _)⟩ ?_
   rintro ⟨i, at_, v, s⟩ b wl ⟨hi0, hat, hsl, hso, hM, hp, hk⟩ hback
   dsimp only
   simp only at hi0 hat hsl hso hM hp
   have hk' := hk.size
   refine Zs<|Zs<|Zr<|Zomi rfl rfl<|Zoms rfl rfl<|Zo (X.idxS (hs.keep hk) Zu43 Zs5 rfl rfl ⟨by omega, by omega⟩) rfl<|Zo (X.loadS Zi5 (hs.keep hk) (j := 0) rfl rfl (fun _ h => by rw [h.1]; rfl)) rfl ?_
   refine Zo (X.cvI Zu5 Zu3 rfl (X.w_i64 Zz)) rfl<|X.opP X.wN rfl rfl (X.lss rfl rfl) (fun h25 => ?_) (fun h25 => ?_)
   ·refine Ze<|Zt rfl<|Zk<|Zs<|Zb<|Zs<|Zr<|Zoms rfl rfl<|Zomi rfl rfl<|Zo (X.cutL Zu43 Zs5 rfl rfl Zz) rfl<|Zc (X.callE (takeOne_c _ ((hs.drop at_ c Zz Zz).keep hk) Zz Zz) Tryz.call174 rfl rfl) rfl ?_
    rintro _ w1 ⟨⟨u1, kk1, rfl, hu1⟩, hk1⟩
    have hk1' := hk1.size
    refine Zom rfl rfl<|Zo (X.extr rfl rfl) rfl<|Zo (X.extr rfl rfl) rfl<|Zo (X.extr rfl rfl) rfl<|Zc (X.allocE Zv90 rfl) rfl ?_
    rintro _ w2 ⟨rfl, hB2, hk2, hz2⟩
    refine Zc (X.storeNE Zs90 hB2 rfl rfl rfl rfl (encV_one _)) rfl ?_
    rintro _ w3 ⟨hB3, hx3, hz3⟩
    refine Zoai rfl rfl<|Zoai rfl rfl<|Ze<|Zs<|Zs<|Zr<|Zomi rfl rfl<|X.opP X.wN rfl rfl (X.neI rfl rfl) (fun h37 => ?_) (fun h37 => ?_)
    ·rw [show x0.toNat - i = (x0.toNat - (i + 1)) + 1 by omega, pVals, code_1 h37] at hp
     refine Ze<|Zt rfl<|Zs<|Zr<|Zoa rfl rfl<|Zoa rfl rfl<|Zoa rfl rfl<|Ze<|X.ret3 (v2 := (.int .i64 _)) (v3 := (.int .i64 _)) Zf149 Zr149 rfl rfl rfl ?_
     first
     | exact ⟨_, by rw [show l = [] from List.eq_nil_of_length_eq_zero Zz]; rfl, by rw [show l = [] from List.eq_nil_of_length_eq_zero Zz]; exact (Mine.nil _ _ _ _ _ _), (((hk.trans hk1).trans hk2).step hx3 zq27)⟩
     | (have e : pTup (x0 :: ys0) = none := by rw [pTup, if_pos Zz]
        exact ⟨_, by rw [e]; rfl, by rw [e]; exact (Mine.nil _ _ _ _ _ _), (((hk.trans hk1).trans hk2).step hx3 zq27)⟩)
     | (have e : pTup (x0 :: ys0) = none := by rw [pTup, if_neg Zz, ← hp]; rfl
        exact ⟨_, by rw [e]; rfl, by rw [e]; exact (Mine.nil _ _ _ _ _ _), (((hk.trans hk1).trans hk2).step hx3 zq27)⟩)
     | (have e : pTup (x0 :: ys0) = some (s, (x0 :: ys0).drop at_) := by rw [pTup, if_neg Zz, ← hp, show x0.toNat - i = 0 by omega, pVals]; simp
        exact ⟨_, by rw [e]; simp only [cnt, code, Option.isSome_some, if_true]; rw [List.length_drop, show ((n : Nat) : Int) - (((x0 :: ys0).length - at_ : Nat) : Int) = (at_ : Int) by omega], by rw [e]; exact (Mine.nil _ _ _ _ _ _), (((hk.trans hk1).trans hk2).step hx3 zq27)⟩)
    ·obtain ⟨b0, hb0⟩ := code_0 h37
     obtain ⟨hub, hkb⟩ := hu1 b0 hb0
     obtain ⟨k0, hk1e, hk2e, hk3e, hk4e, hok⟩ := pVal_suffix hb0
     subst hub
     rw [hb0] at hkb
     simp only [cnt] at hkb
     have hdl : ((x0 :: ys0).drop at_).length = n - at_ := by rw [List.length_drop, hl]
     rw [show x0.toNat - i = (x0.toNat - (i + 1)) + 1 by omega, pVals, hb0] at hp
     dsimp only at hp
     rw [hk2e, List.drop_drop] at hp
     have hkk : kk1 = (k0 : Int) := by omega
     refine Ze<|Zf rfl<|Zk<|Zs<|Zr<|Zom rfl rfl<|Zo (X.loadNB Zi90 Zs90 hB3 rfl rfl rfl) rfl<|Zc (X.litKE (K := KV) (xs := [Operand.tmp 39]) (vs := [.agg (encV b0.1).toArray]) (ys := [b0.1]) Zu38 Zs90 Zv90 rfl rfl rfl rfl rfl (litV_ok hok)) rfl ?_
     rintro _ w4 ⟨rfl, hs4, hB4, hk4, hz4⟩
     refine Zc (X.appE (K := KV) (S := fun k => w.heap.size ≤ k) KV_flat Zu38 EV rfl rfl (hM.keep (((hk1.trans hk2).step hx3 zq27).trans hk4)) hs4 zq8 zq27) rfl ?_
     rintro v5 w5 ⟨hM5, hx5⟩
     have hx5' := hx5.size
     refine Zoa rfl rfl<|Ze<|Zr<|Zomi rfl rfl<|Zomi rfl rfl<|Zo (X.add (c := ((at_ + k0 : Nat) : Int)) rfl rfl (by rw [hkk, X.w_i64 Zz]; omega)) rfl ?_
     refine Zoai rfl rfl<|Ze<|Zi<|Zr<|Zomi rfl rfl<|Zo (X.add rfl rfl (X.w_i64 Zz)) rfl<|Zoai rfl rfl<|Ze ?_
     refine hback (i + 1, at_ + k0, _, s ++ [b0.1]) _ _ ⟨rfl, rfl, rfl, rfl, trivial⟩ ⟨by dsimp only; omega, by dsimp only; omega, by simp only [List.length_append, List.length_cons, List.length_nil]; omega, by intro u hu; simp only [List.mem_append, List.mem_singleton] at hu; rcases hu with hu | rfl; exact hso u hu; exact hok, hM5, by dsimp only; rw [← hp, Option.map_map]; congr 1; funext b; simp, (((((hk.trans hk1).trans hk2).step hx3 zq27).trans hk4).step hx5 zq27)⟩ (by dsimp only; omega)
   ·refine Ze<|Zf rfl<|Zx rfl<|Zs<|Zr<|Zom rfl rfl<|Zomi rfl rfl<|Zoa rfl rfl<|Zoai rfl rfl<|Zoa rfl rfl<|Ze<|X.ret3 (v2 := (.int .i64 _)) (v3 := (.int .i64 _)) Zf149 Zr149 rfl rfl rfl ?_
    first
    | exact ⟨_, by rw [show l = [] from List.eq_nil_of_length_eq_zero Zz]; rfl, by rw [show l = [] from List.eq_nil_of_length_eq_zero Zz]; exact hM, hk⟩
    | (have e : pTup (x0 :: ys0) = none := by rw [pTup, if_pos Zz]
       exact ⟨_, by rw [e]; rfl, by rw [e]; exact hM, hk⟩)
    | (have e : pTup (x0 :: ys0) = none := by rw [pTup, if_neg Zz, ← hp]; rfl
       exact ⟨_, by rw [e]; rfl, by rw [e]; exact hM, hk⟩)
    | (have e : pTup (x0 :: ys0) = some (s, (x0 :: ys0).drop at_) := by rw [pTup, if_neg Zz, ← hp, show x0.toNat - i = 0 by omega, pVals]; simp
       exact ⟨_, by rw [e]; simp only [cnt, code, Option.isSome_some, if_true]; rw [List.length_drop, show ((n : Nat) : Int) - (((x0 :: ys0).length - at_ : Nat) : Int) = (at_ : Int) by omega], by rw [e]; exact hM, hk⟩)
theorem pTup_suffix {l : List UInt8} {b : List VAL × List UInt8} (h : pTup l = some b) : ∃ k : Nat, cnt (pTup l) l.length = (k : Int) ∧ b.2 = l.drop k ∧ k ≤ l.length := by
  obtain ⟨hj, _, _⟩ := pTup_just h
  have hl : l.length = (tupB b.1).length + b.2.length := by conv => lhs; rw [hj]; rw [List.length_append]
  refine ⟨(tupB b.1).length, by rw [h]; simp only [cnt]; omega, ?_, by omega⟩
  conv => rhs; rw [hj]
  simp
theorem pCnt_n1 {l : List UInt8} (h : pTup l = none) : pCnt l = none := by rw [pCnt, h]
theorem pCnt_n2 {l : List UInt8} {b : List VAL × List UInt8} (h : pTup l = some b) (h2 : pInt b.2 = none) : pCnt l = none := by rw [pCnt, h]; dsimp only; rw [h2]; rfl
theorem pCnt_s {l : List UInt8} {b : List VAL × List UInt8} {q : Int × List UInt8} (h : pTup l = some b) (h2 : pInt b.2 = some q) : pCnt l = some ((b.1, q.1), q.2) := by rw [pCnt, h]; dsimp only; rw [h2]; rfl
theorem RTakeTuple_s {lo hi : Nat} {A : Option Addr} {n c : Nat} {l : List UInt8} (w : World) (hs : Sl KB lo hi w A n l) (hnc : n ≤ c) (hn : n ≤ 1000000) : Ret Tryz.prog 149 #[.slice A n c] w fun r w' => ∃ A' c', r = .tuple #[.slice A' (told (pTup l) []).length c', .int .i64 (cnt (pTup l) n), .int .i64 (code (pTup l))] ∧ Mine KV 90 (fun k => w.heap.size ≤ k) 0 0 w' (.slice A' (told (pTup l) []).length c') (told (pTup l) []) ∧ Keep w w' :=
  (RTakeTuple_c w hs hnc hn).mono fun r w' ⟨v, h1, h2, h3⟩ => by
    obtain ⟨A', c', e, _, _⟩ := h2.slice
    subst e
    exact ⟨A', c', h1, h2, h3⟩
theorem cnt_bdI (l : List UInt8) : 0 ≤ cnt (pInt l) l.length ∧ cnt (pInt l) l.length ≤ (l.length : Int) := by
  rw [(told_int l l.length).2.1]; exact cnt_bd l
theorem RTakeCounted_c {lo hi : Nat} {A : Option Addr} {n c : Nat} {l : List UInt8} (w : World) (hs : Sl KB lo hi w A n l) (hnc : n ≤ c) (hn : n ≤ 1000000) : Ret Tryz.prog 113 #[.slice A n c] w fun r w' => ∃ v, r = .tuple #[.agg #[v, .int .i64 (told (pCnt l) ([], 0)).2], .int .i64 (cnt (pCnt l) n), .int .i64 (code (pCnt l))] ∧ Mine KV 90 (fun k => w.heap.size ≤ k) 0 0 w' v (told (pCnt l) ([], 0)).1 ∧ Keep w w' := by
 have hl := hs.len
 refine X.enter Zf113 rfl Tryz.ntmps113 rfl<|Zs<|Zr<|Zc (X.allocE Zv40 rfl) rfl ?_
 rintro _ w1 ⟨rfl, hB1, hk1, hz1⟩
 refine Zoa rfl rfl<|Zoa rfl rfl<|Ze<|Zs<|Zr<|Zoms rfl rfl<|Zc (X.callE (RTakeTuple_s _ (hs.keep hk1) Zz Zz) Tryz.call149 rfl rfl) rfl ?_
 rintro _ w2 ⟨A2, c2, rfl, hM2, hk2⟩
 have hk2' := hk2.size
 refine Zom rfl rfl<|Zo (X.extr rfl rfl) rfl<|Zo (X.extr rfl rfl) rfl<|Zo (X.extr rfl rfl) rfl<|Zoa rfl rfl<|Zoai rfl rfl<|Zoai rfl rfl<|Ze<|Zs<|Zs<|Zr<|Zomi rfl rfl<|X.opP X.wN rfl rfl (X.neI rfl rfl) (fun h18 => ?_) (fun h18 => ?_)
 ·have e1 := pCnt_n1 (code_1 h18)
  refine Ze<|Zt rfl<|Zs<|Zr<|Zo (X.buildB (vs := []) (cs := #[.slice none 0 0, .int .i64 0]) rfl Zl) rfl<|Zomi rfl rfl<|Zc (X.storeNE Zs40 (hB1.keep hk2) rfl rfl rfl rfl (fun u hu => by simp at hu; rcases hu with rfl | rfl <;> rfl)) rfl ?_
  rintro _ w3 ⟨hB3, hx3, hz3⟩
  refine Zoa rfl rfl<|Zoai rfl rfl<|Ze ?_
  refine X.ret_unw (X.unwR3 Zf113 Zr113 (X.ResOk.cell rfl (X.lvN Zi40 Zs40 hB3 rfl)) (show X.ResOk _ _ _ (.tmp 3) (.int .i64 _) from rfl) (show X.ResOk _ _ _ (.tmp 4) (.int .i64 _) from rfl) ?_)
  exact ⟨_, by rw [e1, code_1 h18]; rfl, by rw [e1]; exact (Mine.nil _ _ _ _ _ _), ((hk1.trans hk2).step hx3 zq27)⟩
 ·obtain ⟨b0, hb0⟩ := code_0 h18
  obtain ⟨k0, hc1, hc2, hc3⟩ := pTup_suffix hb0
  rw [hl] at hc1 hc3
  refine Ze<|Zf rfl<|Zk<|Zs<|Zr<|Zoms rfl rfl<|Zomi rfl rfl<|Zo (X.cutL Zu43 Zs5 rfl rfl Zz) rfl<|Zc (X.callE (RTakeInt_c _ ((show Sl KB lo hi w _ _ (l.drop k0) from by have e := hs.drop k0 c Zz hnc; rw [show (cnt (pTup l) n).toNat = k0 by omega]; exact e).keep (hk1.trans hk2)) Zz Zz) Tryz.call150 rfl rfl) rfl ?_
  rintro _ w4 ⟨rfl, hk4⟩
  have hk4' := hk4.size
  refine Zom rfl rfl<|Zo (X.extr rfl rfl) rfl<|Zo (X.extr rfl rfl) rfl<|Zo (X.extr rfl rfl) rfl<|Zoai rfl rfl<|Zoai rfl rfl<|Zoai rfl rfl<|Ze<|Zs<|Zs<|Zr<|Zomi rfl rfl<|X.opP X.wN rfl rfl (X.neI rfl rfl) (fun h30 => ?_) (fun h30 => ?_)
  ·have e1 := pCnt_n2 hb0 (by rw [hc2]; exact code_1 (by simpa [hc1] using h30))
   refine Ze<|Zt rfl<|Zs<|Zr<|Zo (X.buildB (vs := []) (cs := #[.slice none 0 0, .int .i64 0]) rfl Zl) rfl<|Zomi rfl rfl<|Zc (X.storeNE Zs40 (hB1.keep (hk2.trans hk4)) rfl rfl rfl rfl (fun u hu => by simp at hu; rcases hu with rfl | rfl <;> rfl)) rfl ?_
   rintro _ w5 ⟨hB5, hx5, hz5⟩
   refine Zoa rfl rfl<|Zoai rfl rfl<|Ze ?_
   refine X.ret_unw (X.unwR3 Zf113 Zr113 (X.ResOk.cell rfl (X.lvN Zi40 Zs40 hB5 rfl)) (show X.ResOk _ _ _ (.tmp 3) (.int .i64 _) from rfl) (show X.ResOk _ _ _ (.tmp 4) (.int .i64 _) from rfl) ?_)
   exact ⟨_, by rw [e1, code_1 h30]; rfl, by rw [e1]; exact (Mine.nil _ _ _ _ _ _), (((hk1.trans hk2).trans hk4).step hx5 zq27)⟩
  ·obtain ⟨q0, hq0⟩ := code_0 h30
   refine Ze<|Zf rfl<|Zk<|Zs<|Zr<|Zom rfl rfl<|Zomi rfl rfl<|Zo (X.buildB (vs := [(0, .slice A2 _ c2), (1, .int .i64 (told (pInt (l.drop k0)) 0))]) (cs := #[.slice A2 (told (pTup l) []).length c2, .int .i64 (told (pInt (l.drop k0)) 0)]) rfl Zl) rfl<|Zomi rfl rfl<|Zomi rfl rfl<|Zo (X.add (c := cnt (pTup l) n + cnt (pInt (l.drop k0)) (n - k0)) rfl rfl (by rw [show (cnt (pTup l) n).toNat = k0 by omega, X.w_i64 (by have := cnt_bdI (l.drop k0); rw [List.length_drop, hl] at this; omega)])) rfl ?_
   refine Zc (X.storeNE Zs40 (hB1.keep (hk2.trans hk4)) rfl rfl rfl rfl (fun u hu => by simp at hu; rcases hu with rfl | rfl <;> rfl)) rfl ?_
   rintro _ w6 ⟨hB6, hx6, hz6⟩
   refine Zoai rfl rfl<|Zoa rfl rfl<|Ze ?_
   refine X.ret_unw (X.unwR3 Zf113 Zr113 (X.ResOk.cell rfl (X.lvN Zi40 Zs40 hB6 rfl)) (show X.ResOk _ _ _ (.tmp 3) (.int .i64 _) from rfl) (show X.ResOk _ _ _ (.tmp 4) (.int .i64 _) from rfl) ?_)
   have e1 := pCnt_s hb0 (by rw [hc2]; exact hq0)
   exact ⟨_, by rw [e1, hb0, hq0]; simp only [told, cnt, code, Option.isSome_some, if_true]; rw [show (n : Int) - (b0.2.length : Int) + (((n - k0 : Nat) : Int) - (q0.2.length : Int)) = (n : Int) - (q0.2.length : Int) by rw [hc2, List.length_drop, hl]; omega], by rw [e1]; rw [hb0] at hM2; exact (Mine.mono (T := fun k => w.heap.size ≤ k) ((hM2.keep hk4).ext hx6 zq29 zq29) (fun k h1 h2 => by (try simp only [] at *); omega)), (((hk1.trans hk2).trans hk4).step hx6 zq27)⟩
theorem EPl : ElemInfo Tryz.prog 76 3 40 := ElemInfo.of (z := .agg #[.int .i64 0, .int .i64 0, .slice none 0 0]) Zl rfl rfl rfl
theorem pNum_drop {l : List UInt8} {z : Nat × List UInt8} (h : pNum 0 0 l = some z) : ∃ k : Nat, cnt (pNum 0 0 l) l.length = (k : Int) ∧ z.2 = l.drop k ∧ k + z.2.length = l.length ∧ 1 ≤ k := by
  obtain ⟨pre, hp, e⟩ := pNum_suf h
  have hl := congrArg List.length e
  rw [List.length_append] at hl
  have h1 := List.length_pos_iff.2 hp
  refine ⟨pre.length, ?_, ?_, by omega, h1⟩
  · rw [h]; show (l.length : Int) - (z.2.length : Int) = _; omega
  · rw [e, List.drop_left]
theorem RTN_c {lo hi : Nat} {A : Option Addr} {n c : Nat} {l : List UInt8} (w : World) (hs : Sl KB lo hi w A n l) (hnc : n ≤ c) (hn : n ≤ 1000000) : Ret Tryz.prog 112 #[.slice A n c] w fun r w' => ∃ (t k : Nat) (e : Int), r = .tuple #[.int .u64 (t : Int), .int .i64 (k : Int), .int .i64 e] ∧ t < 18446744073709551616 ∧ (e ≠ 0 → pNum 0 0 l = none) ∧ (e = 0 → ∃ x, pNum 0 0 l = some (t, x) ∧ x = l.drop k ∧ k + x.length = n ∧ 1 ≤ k) ∧ Keep w w' := by
  refine (RTakeNum_c w hs hnc hn).mono ?_
  rintro r w' ⟨rfl, hk⟩
  have hl := hs.len
  have hb := cnt_bd l
  refine ⟨told (pNum 0 0 l) 0, (cnt (pNum 0 0 l) n).toNat, code (pNum 0 0 l), ?_, told_lt l, code_1, fun h => ?_, hk⟩
  · rw [Int.toNat_of_nonneg (by rw [← hl]; exact hb.1)]
  · obtain ⟨b, hb⟩ := code_0 (fun g => g h)
    obtain ⟨k, h1, h2, h3, h4⟩ := pNum_drop hb
    rw [← hl, h1, Int.toNat_natCast]
    exact ⟨b.2, by rw [hb]; rfl, h2, h3, h4⟩
theorem pText_drop {most : Int} {l : List UInt8} {z : List UInt8 × List UInt8} (h : pText most l = some z) : ∃ k : Nat, cnt (pText most l) l.length = (k : Int) ∧ z.2 = l.drop k ∧ k + z.2.length = l.length := by
  obtain ⟨pre, hp, e⟩ := pText_suf h
  have hl := congrArg List.length e
  rw [List.length_append] at hl
  refine ⟨pre.length, ?_, ?_, by omega⟩
  · rw [h]; show (l.length : Int) - (z.2.length : Int) = _; omega
  · rw [e, List.drop_left]
theorem RTT_c {lo hi : Nat} {A : Option Addr} {n c : Nat} {l : List UInt8} (w : World) (hs : Sl KB lo hi w A n l) (hnc : n ≤ c) (hn : n ≤ 1000000) : Ret Tryz.prog 115 #[.slice A n c, .int .i64 1048576] w fun r w' => ∃ (A' : Option Addr) (c' : Nat) (kb : List UInt8) (k : Nat) (e : Int), r = .tuple #[.slice A' kb.length c', .int .i64 (k : Int), .int .i64 e] ∧ kb.length ≤ c' ∧ Sl KB w.heap.size w'.heap.size w' A' kb.length kb ∧ (e ≠ 0 → pText 1048576 l = none) ∧ (e = 0 → ∃ x, pText 1048576 l = some (kb, x) ∧ x = l.drop k ∧ k + x.length = n ∧ kb.length ≤ n) ∧ Keep w w' := by
  refine (RTakeText_c 1048576 ⟨by decide, by decide⟩ w hs hnc hn).mono ?_
  rintro r w' ⟨v, rfl, hM, hk⟩
  have hl := hs.len
  have hb := cnt_bdT 1048576 l
  obtain ⟨A', c', rfl, hc', hs'⟩ := hM.slF KB_flat w.heap.size (fun _ h => h)
  refine ⟨A', c', told (pText 1048576 l) [], (cnt (pText 1048576 l) n).toNat, code (pText 1048576 l), ?_, hc', hs', code_1, fun h => ?_, hk⟩
  · rw [Int.toNat_of_nonneg (by rw [← hl]; exact hb.1)]
  · obtain ⟨b, hb⟩ := code_0 (fun g => g h)
    obtain ⟨k, h1, h2, h3⟩ := pText_drop hb
    have h4 := pText_fst hb
    rw [← hl, h1, Int.toNat_natCast]
    exact ⟨b.2, by rw [hb]; rfl, h2, h3, by rw [hb]; show b.1.length ≤ _; omega⟩
theorem RFK_c {lo hi : Nat} {A : Option Addr} {n c : Nat} {l : List UInt8} (w : World) (hs : Sl KB lo hi w A n l) (hnc : n ≤ c) (hn : n ≤ 1000000) : Ret Tryz.prog 116 #[.slice A n c] w fun r w' => ∃ (A' : Option Addr) (c' : Nat) (t : List VAL) (e : Int), r = .tuple #[.slice A' t.length c', .int .i64 e] ∧ t.length ≤ c' ∧ Sl KV w.heap.size w'.heap.size w' A' t.length t ∧ (e ≠ 0 → pFrom l = none) ∧ (e = 0 → pFrom l = some t) ∧ Keep w w' := by
  refine (RFromKey_c w hs hnc hn).mono ?_
  rintro r w' ⟨v, rfl, hM, hk⟩
  obtain ⟨A', c', rfl, hc', hs'⟩ := hM.slF KV_flat w.heap.size (fun _ h => h)
  refine ⟨A', c', _, _, rfl, hc', hs', fun h => ?_, fun h => ?_, hk⟩
  · cases hq : pFrom l with
    | none => rfl
    | some t => rw [hq] at h; exact absurd rfl h
  · cases hq : pFrom l with
    | none => rw [hq] at h; exact absurd h (by decide)
    | some t => rfl
theorem pCnt_drop {l : List UInt8} {z : CD × List UInt8} (h : pCnt l = some z) : ∃ k : Nat, cnt (pCnt l) l.length = (k : Int) ∧ z.2 = l.drop k ∧ k + z.2.length = l.length ∧ 1 ≤ k ∧ okI z.1.2 := by
  obtain ⟨e, e2, e3, e4⟩ := pCnt_just h
  have hl := congrArg List.length e
  rw [List.length_append] at hl
  have : 1 ≤ (cntB z.1.1 z.1.2).length := by rw [cntB, tupB, List.length_append, List.length_cons]; omega
  refine ⟨(cntB z.1.1 z.1.2).length, ?_, ?_, by omega, this, e4⟩
  · rw [h]; show (l.length : Int) - (z.2.length : Int) = _; omega
  · rw [e, List.drop_left]
theorem RTC_c {lo hi : Nat} {A : Option Addr} {n c : Nat} {l : List UInt8} (w : World) (hs : Sl KB lo hi w A n l) (hnc : n ≤ c) (hn : n ≤ 1000000) : Ret Tryz.prog 113 #[.slice A n c] w fun r w' => ∃ (A' : Option Addr) (c' : Nat) (q : CD) (k : Nat) (e : Int), r = .tuple #[.agg #[.slice A' q.1.length c', .int .i64 q.2], .int .i64 (k : Int), .int .i64 e] ∧ q.1.length ≤ c' ∧ Sl KV w.heap.size w'.heap.size w' A' q.1.length q.1 ∧ (e ≠ 0 → pCnt l = none) ∧ (e = 0 → ∃ x, pCnt l = some (q, x) ∧ x = l.drop k ∧ k + x.length = n ∧ 1 ≤ k ∧ okI q.2) ∧ Keep w w' := by
  refine (RTakeCounted_c w hs hnc hn).mono ?_
  rintro r w' ⟨v, rfl, hM, hk⟩
  have hl := hs.len
  obtain ⟨A', c', rfl, hc', hs'⟩ := hM.slF KV_flat w.heap.size (fun _ h => h)
  have hc0 : 0 ≤ cnt (pCnt l) l.length := by
    cases hq : pCnt l with
    | none => exact Int.le_refl _
    | some b => obtain ⟨k, h1, _⟩ := pCnt_drop hq; rw [← hq, h1]; omega
  refine ⟨A', c', (told (pCnt l) ([], 0)), (cnt (pCnt l) n).toNat, code (pCnt l), ?_, hc', hs', code_1, fun h => ?_, hk⟩
  · rw [Int.toNat_of_nonneg (by rw [← hl]; exact hc0)]
  · obtain ⟨b, hb⟩ := code_0 (fun g => g h)
    obtain ⟨k, h1, h2, h3, h4, h5⟩ := pCnt_drop hb
    rw [← hl, h1, Int.toNat_natCast, hb]
    exact ⟨b.2, rfl, h2, h3, h4, h5⟩
theorem Rparts_c (all : Nat) (hall : all ≤ 1000000) {lo hi : Nat} {A : Option Addr} {n c : Nat} {xs : List UInt8} (w : World) (hs : Sl KB lo hi w A n xs) (hhi : hi ≤ w.heap.size) (hnc : n ≤ c) (hn : n ≤ 1000000) : Ret Tryz.prog 68 #[.slice A n c, .int .i64 (all : Int)] w fun r w' => (match idx3 all xs with
    | some (l, k) => ∃ A' c', r = .tuple #[.agg #[.slice A' l.length c', .int .i64 (k : Int)], .bool true] ∧ l.length ≤ c' ∧ LfS w.heap.size w'.heap.size w' A' l.length l
    | none => ∃ a1 a2 a3 k, r = .tuple #[.agg #[.slice a1 a2 a3, .int .i64 k], .bool false]) ∧ Keep w w' := by
 have hsl := hs.len
 refine X.enter Zf68 rfl Tryz.ntmps68 rfl<|Zs<|Zr<|Zc (X.allocE Zv71 rfl) rfl ?_
 rintro _ w1 ⟨rfl, hB1, hk1, hz1⟩
 refine Zoa rfl rfl<|Ze<|Zs<|Zr<|Zc (X.allocE Zv71 rfl) rfl ?_
 rintro _ w2 ⟨rfl, hB2, hk2, hz2⟩
 refine Ze<|Zs<|Zr<|Zoms rfl rfl<|Zc (X.callE (RTN_c _ (hs.keep (hk1.trans hk2)) Zz Zz) Zc112 rfl rfl) rfl ?_
 rintro _ w3 ⟨t1, k1, e1, rfl, ht1, hE1, hZ1, hk3⟩
 have hk3' := hk3.size
 refine Zom rfl rfl<|Zo (X.extr rfl rfl) rfl<|Zo (X.extr rfl rfl) rfl<|Zo (X.extr rfl rfl) rfl<|Zoau rfl rfl<|Zoai rfl rfl<|Zoai rfl rfl<|Ze<|Zs<|Zs<|Zr<|Zomi rfl rfl<|X.opP X.wN rfl rfl (X.neI rfl rfl) (fun h29 => ?_) (fun h29 => ?_)
 ·
  refine Ze<|Zt rfl<|Zs<|Zr<|Zo (X.loadNB Zi71 Zs71 (hB2.keep hk3) rfl rfl rfl) rfl<|Zc (X.storeNE Zs71 (hB1.keep (hk2.trans hk3)) rfl rfl rfl rfl (fun u hu => by simp at hu; rcases hu with rfl | rfl <;> rfl)) rfl ?_
  rintro _ w4 ⟨hB4, hx4, hz4⟩
  refine Zoa rfl rfl<|Ze ?_
  refine X.ret_unw (X.unwR2 Zf68 Zr68 (X.ResOk.cell rfl (X.lvN Zi71 Zs71 hB4 rfl)) (show X.ResOk _ _ _ (.tmp 5) (.bool _) from rfl) ?_)
  have hN : idx3 all xs = none := by exact idx_g (hE1 h29)
  rw [hN]
  exact ⟨⟨_, _, _, _, rfl⟩, (((hk1.trans hk2).trans hk3).step hx4 zq10)⟩
 ·obtain ⟨_, hz1, rfl, hl1, hp1⟩ := hZ1 (Classical.byContradiction h29)
  refine Ze<|Zf rfl<|Zk<|Zs<|Zr<|Zoms rfl rfl<|Zomi rfl rfl<|Zo (X.cutL Zu43 Zs5 rfl rfl Zz) rfl<|Zoas rfl rfl<|Ze<|Zs<|Zr<|Zoms rfl rfl<|Zc (X.callE (RTN_c _ ((hs.drop k1 c Zz Zz).keep ((hk1.trans hk2).trans hk3)) Zz Zz) Zc112 rfl rfl) rfl ?_
  rintro _ w5 ⟨t2, k2, e2, rfl, ht2, hE2, hZ2, hk5⟩
  have hk5' := hk5.size
  refine Zom rfl rfl<|Zo (X.extr rfl rfl) rfl<|Zo (X.extr rfl rfl) rfl<|Zo (X.extr rfl rfl) rfl<|Zoau rfl rfl<|Zoai rfl rfl<|Zoai rfl rfl<|Ze<|Zs<|Zs<|Zr<|Zomi rfl rfl<|X.opP X.wN rfl rfl (X.neI rfl rfl) (fun h41 => ?_) (fun h41 => ?_)
  ·
   refine Zomt rfl rfl<|Zp rfl rfl rfl<|Zp rfl rfl rfl<|Zo (ZdTt rfl rfl) rfl<|Ze<|Zt rfl<|Zs<|Zr<|Zo (X.loadNB Zi71 Zs71 (hB2.keep (hk3.trans hk5)) rfl rfl rfl) rfl<|Zc (X.storeNE Zs71 (hB1.keep ((hk2.trans hk3).trans hk5)) rfl rfl rfl rfl (fun u hu => by simp at hu; rcases hu with rfl | rfl <;> rfl)) rfl ?_
   rintro _ w6 ⟨hB6, hx6, hz6⟩
   refine Zoa rfl rfl<|Ze ?_
   refine X.ret_unw (X.unwR2 Zf68 Zr68 (X.ResOk.cell rfl (X.lvN Zi71 Zs71 hB6 rfl)) (show X.ResOk _ _ _ (.tmp 5) (.bool _) from rfl) ?_)
   have hN : idx3 all xs = none := by exact idx_h (z := (t1, _)) hz1 (hE2 h41)
   rw [hN]
   exact ⟨⟨_, _, _, _, rfl⟩, ((((hk1.trans hk2).trans hk3).trans hk5).step hx6 zq10)⟩
  ·obtain ⟨_, hz2, rfl, hl2, hp2⟩ := hZ2 (Classical.byContradiction h41)
   refine Zomf rfl rfl<|Zg (Zdmu rfl) rfl rfl rfl rfl<|X.opP (X.wG rfl rfl rfl) rfl rfl (X.gtr rfl rfl) (fun h44 => ?_) (fun h44 => ?_)
   ·
    refine Zo (ZdFt rfl rfl) rfl<|Ze<|Zt rfl<|Zs<|Zr<|Zo (X.loadNB Zi71 Zs71 (hB2.keep (hk3.trans hk5)) rfl rfl rfl) rfl<|Zc (X.storeNE Zs71 (hB1.keep ((hk2.trans hk3).trans hk5)) rfl rfl rfl rfl (fun u hu => by simp at hu; rcases hu with rfl | rfl <;> rfl)) rfl ?_
    rintro _ w7 ⟨hB7, hx7, hz7⟩
    refine Zoa rfl rfl<|Ze ?_
    refine X.ret_unw (X.unwR2 Zf68 Zr68 (X.ResOk.cell rfl (X.lvN Zi71 Zs71 hB7 rfl)) (show X.ResOk _ _ _ (.tmp 5) (.bool _) from rfl) ?_)
    have hN : idx3 all xs = none := by exact idx_i (z := (t1, _)) (y := (t2, _)) hz1 hz2 Zz
    rw [hN]
    exact ⟨⟨_, _, _, _, rfl⟩, ((((hk1.trans hk2).trans hk3).trans hk5).step hx7 zq10)⟩
   ·refine Zo (ZdFf rfl rfl) rfl<|Ze<|Zf rfl<|Zk<|Zs<|Zr<|Zoms rfl rfl<|Zomi rfl rfl<|Zo (X.cutL Zu43 Zs5 rfl rfl Zz) rfl<|Zoas rfl rfl<|Ze<|Zs<|Zr<|Zomu rfl rfl<|Zo (X.cvI Zu119 Zu3 rfl (X.w_i64 Zz)) rfl<|Zo (X.fldB (j := 1) Zu71 rfl rfl Zs3 rfl) rfl<|Zc (X.storeE Zs3 (hB2.keep (hk3.trans hk5)) rfl rfl rfl rfl) rfl ?_
    rintro _ w8 ⟨hB8, hx8, hz8⟩
    refine Ze<|Zs<|Zr<|Zoa rfl rfl<|Ze<|Zs<|Zs<|Zr<|Zoa rfl rfl<|Ze<|Zb ?_
    have hE3 : idx3 all xs = (parts all t1 0 none ((xs.drop k1).drop k2)).map fun l => (l, t2) := idx_j (z := (t1, _)) (y := (t2, _)) hz1 hz2 Zz
    clear hE1 hZ1 hE2 hZ2 h29 h41
    have hs0 := (((hs.drop k1 c Zz Zz).drop k2 (c - k1) Zz Zz).keep ((((hk1.trans hk2).trans hk3).trans hk5).step hx8 zq10))
    refine X.loopL (σ := Nat × Nat × Value × Option Addr × Nat × Nat × List UInt8) (fun s => [(0, .slice s.2.2.2.1 s.2.2.2.2.1 s.2.2.2.2.2.1), (1, .int .i64 (all : Int)), (4, .pointer (some ⟨w.heap.size, 0, none⟩)), (6, .pointer (some ⟨w1.heap.size, 0, none⟩)), (7, .int .u64 (t1 : Int)), (11, .int .i64 (s.2.1 : Int)), (12, .int .u64 (s.1 : Int))]) (fun s w' => s.1 ≤ t1 ∧ s.2.1 ≤ all ∧ Keep w w' ∧ Blk w' w.heap.size [.slice none 0 0, .int .i64 0] 71 ∧ Blk w' w1.heap.size [s.2.2.1, .int .i64 (t2 : Int)] 71 ∧ s.2.2.2.2.1 = s.2.2.2.2.2.2.length ∧ s.2.2.2.2.1 ≤ s.2.2.2.2.2.1 ∧ w8.heap.size ≤ w'.heap.size ∧ Sl KB lo hi w' s.2.2.2.1 s.2.2.2.2.1 s.2.2.2.2.2.2 ∧ ∃ L l S G, NRow NdLf 76 w8.heap.size w'.heap.size S G w' s.2.2.1 L l ∧ l.length + s.2.2.2.2.1 ≤ 1000000 ∧ idx3 all xs = ((parts all (t1 - s.1) s.2.1 (lastT l) s.2.2.2.2.2.2).map (l ++ ·)).map fun l => (l, t2)) (fun s => t1 - s.1) (0, 0, .slice none 0 0, _, _, _, (xs.drop k1).drop k2) ⟨rfl, rfl, rfl, rfl, rfl, rfl, rfl, trivial⟩ ⟨Nat.zero_le _, Nat.zero_le _, ((((hk1.trans hk2).trans hk3).trans hk5).step hx8 zq10), (hB1.keep (((hk2.trans hk3).trans hk5).step hx8 zq10)), hB8, by (try dsimp only); exact hs0.len.symm, by (try dsimp only); omega, by (try dsimp only); omega, hs0, [], [], _, _, NRow.nil _ _ _ _ (Nat.le_refl _), by (try dsimp only); simp only [List.length_nil]; omega, by (try dsimp only); rw [hE3, Nat.sub_zero]; exact map_nil⟩ ?_
    rintro ⟨i, a, v, A9, n9, c9, x9⟩ b w1 ⟨hi0, ha, hk, hB4, hB6, h9l, h9c, hbs, hs9, L, l, S, G, hNR, hll, hE⟩ hback
    dsimp only
    dsimp only at hi0 ha hB6 h9l h9c hs9 hNR hll hE
    have hk0 := hk.size
    obtain ⟨Av, cv, rfl, hcv, hsv⟩ := hNR.rd
    refine Zs<|Zs<|Zr<|Zomu rfl rfl<|Zomu rfl rfl<|X.opP X.wN rfl rfl (X.lss rfl rfl) (fun h55 => ?_) (fun h55 => ?_)
    ·obtain ⟨k, hki⟩ : ∃ k, t1 - i = k + 1 := ⟨t1 - i - 1, by omega⟩
     refine Ze<|Zt rfl<|Zk<|Zs<|Zb<|Zs<|Zr<|Zoms rfl rfl<|Zc (X.callE (RTN_c _ hs9 Zz Zz) Zc112 rfl rfl) rfl ?_
     rintro _ w9 ⟨t3, k3, e3, rfl, ht3, hE3, hZ3, hk9⟩
     have hk9' := hk9.size
     refine Zom rfl rfl<|Zo (X.extr rfl rfl) rfl<|Zo (X.extr rfl rfl) rfl<|Zo (X.extr rfl rfl) rfl<|Zoau rfl rfl<|Zoai rfl rfl<|Zoai rfl rfl<|Ze<|Zs<|Zs<|Zr<|Zomi rfl rfl<|X.opP X.wN rfl rfl (X.neI rfl rfl) (fun h65 => ?_) (fun h65 => ?_)
     ·
      refine Zomt rfl rfl<|Zp rfl rfl rfl<|Zp rfl rfl rfl<|Zp rfl rfl rfl<|Zp rfl rfl rfl<|Zp rfl rfl rfl<|Zp rfl rfl rfl<|Zo (ZdTt rfl rfl) rfl<|Ze<|Zt rfl<|Zs<|Zr<|Zo (X.loadNB Zi71 Zs71 (hB6.keep hk9) rfl rfl rfl) rfl<|Zc (X.storeNE Zs71 (hB4.keep hk9) rfl rfl rfl rfl (fun u hu => by simp at hu; rcases hu with rfl | rfl <;> rfl)) rfl ?_
      rintro _ w10 ⟨hB10, hx10, hz10⟩
      refine Zoa rfl rfl<|Ze ?_
      refine X.ret_unw (X.unwR2 Zf68 Zr68 (X.ResOk.cell rfl (X.lvN Zi71 Zs71 hB10 rfl)) (show X.ResOk _ _ _ (.tmp 5) (.bool _) from rfl) ?_)
      have hN : idx3 all xs = none := by rw [hE, hki, parts_1 (hE3 h65)]; rfl
      rw [hN]
      exact ⟨⟨_, _, _, _, rfl⟩, ((hk.trans hk9).step hx10 zq10)⟩
     ·obtain ⟨_, hz3, rfl, hl3, hp3⟩ := hZ3 (Classical.byContradiction h65)
      clear hE3 hZ3 h65
      refine Zomf rfl rfl<|Zg (Zdmu rfl) rfl rfl rfl rfl<|Zg (Zdmi rfl) rfl rfl rfl rfl<|Zg (Zdmi rfl) rfl rfl rfl rfl<|Zg (X.sub (c := ((all - a : Nat) : Int)) rfl rfl (by rw [X.w_i64 Zz]; omega)) rfl rfl rfl rfl ?_
      refine Zg (X.cvI Zu3 Zu119 rfl (X.w_u64 Zz)) rfl rfl rfl rfl<|X.opP (X.wG rfl rfl rfl) rfl rfl (X.gtr rfl rfl) (fun h72 => ?_) (fun h72 => ?_)
      ·
       refine Zo (ZdFt rfl rfl) rfl<|Ze<|Zt rfl<|Zs<|Zr<|Zo (X.loadNB Zi71 Zs71 (hB6.keep hk9) rfl rfl rfl) rfl<|Zc (X.storeNE Zs71 (hB4.keep hk9) rfl rfl rfl rfl (fun u hu => by simp at hu; rcases hu with rfl | rfl <;> rfl)) rfl ?_
       rintro _ w11 ⟨hB11, hx11, hz11⟩
       refine Zoa rfl rfl<|Ze ?_
       refine X.ret_unw (X.unwR2 Zf68 Zr68 (X.ResOk.cell rfl (X.lvN Zi71 Zs71 hB11 rfl)) (show X.ResOk _ _ _ (.tmp 5) (.bool _) from rfl) ?_)
       have hN : idx3 all xs = none := by rw [hE, hki]; cases h5 : pText 1048576 (x9.drop k3) with
         | none => rw [parts_2 (z := (t3, _)) hz3 h5]; rfl
         | some y => cases h6 : pFrom y.1 with
           | none => rw [parts_3 (z := (t3, _)) hz3 h5 h6]; rfl
           | some t => rw [parts_4 (z := (t3, _)) hz3 h5 h6 (.inl (by simp only []; omega))]; rfl
       rw [hN]
       exact ⟨⟨_, _, _, _, rfl⟩, ((hk.trans hk9).step hx11 zq10)⟩
      ·refine Zo (ZdFf rfl rfl) rfl<|Ze<|Zf rfl<|Zk<|Zs<|Zr<|Zoms rfl rfl<|Zomi rfl rfl<|Zo (X.cutL Zu43 Zs5 rfl rfl Zz) rfl<|Zc (X.callE (RTT_c _ ((hs9.drop k3 c9 Zz Zz).keep hk9) Zz Zz) Tryz.call115 rfl rfl) rfl ?_
       rintro _ w12 ⟨A4, c4, kb, k4, e4, rfl, hc4, hs4, hE4, hZ4, hk12⟩
       have hk12' := hk12.size
       refine Zom rfl rfl<|Zo (X.extr rfl rfl) rfl<|Zo (X.extr rfl rfl) rfl<|Zo (X.extr rfl rfl) rfl<|Zoas rfl rfl<|Zoai rfl rfl<|Zoai rfl rfl<|Ze<|Zs<|Zs<|Zr<|Zomi rfl rfl<|X.opP X.wN rfl rfl (X.neI rfl rfl) (fun h84 => ?_) (fun h84 => ?_)
       ·
        refine Ze<|Zt rfl<|Zs<|Zr<|Zo (X.loadNB Zi71 Zs71 (hB6.keep (hk9.trans hk12)) rfl rfl rfl) rfl<|Zc (X.storeNE Zs71 (hB4.keep (hk9.trans hk12)) rfl rfl rfl rfl (fun u hu => by simp at hu; rcases hu with rfl | rfl <;> rfl)) rfl ?_
        rintro _ w13 ⟨hB13, hx13, hz13⟩
        refine Zoa rfl rfl<|Ze ?_
        refine X.ret_unw (X.unwR2 Zf68 Zr68 (X.ResOk.cell rfl (X.lvN Zi71 Zs71 hB13 rfl)) (show X.ResOk _ _ _ (.tmp 5) (.bool _) from rfl) ?_)
        have hN : idx3 all xs = none := by rw [hE, hki, parts_2 (z := (t3, _)) hz3 (hE4 h84)]; rfl
        rw [hN]
        exact ⟨⟨_, _, _, _, rfl⟩, (((hk.trans hk9).trans hk12).step hx13 zq10)⟩
       ·obtain ⟨_, hz4, rfl, hl4, hkb⟩ := hZ4 (Classical.byContradiction h84)
        clear hE4 hZ4 h84
        refine Ze<|Zf rfl<|Zk<|Zs<|Zr<|Zoms rfl rfl<|Zc (X.callE (RFK_c _ hs4 Zz Zz) Tryz.call116 rfl rfl) rfl ?_
        rintro _ w14 ⟨A5, c5, t, e5, rfl, hc5, hs5, hE5, hZ5, hk14⟩
        have hk14' := hk14.size
        refine Zom rfl rfl<|Zo (X.extr rfl rfl) rfl<|Zo (X.extr rfl rfl) rfl<|Zoas rfl rfl<|Zoai rfl rfl<|Ze<|Zs<|Zr<|Zo (X.fldB (j := 0) Zu71 rfl rfl Zs69 rfl) rfl<|Zo (X.load1B Zi69 (hB6.keep ((hk9.trans hk12).trans hk14)) rfl rfl) rfl<|Zo (X.lenSl Zu69 rfl) rfl<|Zo (X.sub rfl rfl (X.w_i64 Zz)) rfl<|Zoai rfl rfl<|Ze<|Zs<|Zs<|Zr<|Zomi rfl rfl<|X.opP X.wN rfl rfl (X.neI rfl rfl) (fun h96 => ?_) (fun h96 => ?_)
        ·
         refine Zomt rfl rfl<|Zp rfl rfl rfl<|Zp rfl rfl rfl<|Zp rfl rfl rfl<|Zu rfl rfl rfl<|Zu rfl rfl rfl<|Zu rfl rfl rfl<|Zu rfl rfl rfl<|Zu rfl rfl rfl<|Zu rfl rfl rfl<|Zu rfl rfl rfl<|Zu rfl rfl rfl<|Zu rfl rfl rfl<|Zp rfl rfl rfl<|Zo (ZdTt rfl rfl) rfl<|Ze<|Zt rfl<|Zs<|Zr<|Zo (X.loadNB Zi71 Zs71 (hB6.keep ((hk9.trans hk12).trans hk14)) rfl rfl rfl) rfl<|Zc (X.storeNE Zs71 (hB4.keep ((hk9.trans hk12).trans hk14)) rfl rfl rfl rfl (fun u hu => by simp at hu; rcases hu with rfl | rfl <;> rfl)) rfl ?_
         rintro _ w15 ⟨hB15, hx15, hz15⟩
         refine Zoa rfl rfl<|Ze ?_
         refine X.ret_unw (X.unwR2 Zf68 Zr68 (X.ResOk.cell rfl (X.lvN Zi71 Zs71 hB15 rfl)) (show X.ResOk _ _ _ (.tmp 5) (.bool _) from rfl) ?_)
         have hN : idx3 all xs = none := by rw [hE, hki, parts_3 (z := (t3, _)) hz3 hz4 (hE5 h96)]; rfl
         rw [hN]
         exact ⟨⟨_, _, _, _, rfl⟩, ((((hk.trans hk9).trans hk12).trans hk14).step hx15 zq10)⟩
        ·have hz5 := hZ5 (Classical.byContradiction h96)
         clear hE5 hZ5 h96
         refine Zomf rfl rfl<|Zg (Zdmi rfl) rfl rfl rfl rfl<|X.opP (X.wG rfl rfl rfl) rfl rfl (X.geq rfl rfl) (fun h99 => ?_) (fun h99 => ?_)
         ·obtain ⟨xl, hxl⟩ : ∃ xl, L[l.length - 1]? = some xl := ⟨_, List.getElem?_eq_getElem (by rw [hNR.d.1]; omega)⟩
          obtain ⟨ql, hql, u1, u2, u3, loq, hiq, u4, hqs⟩ := hNR.d.2 _ _ hxl
          clear u1 u2 u3 u4
          have hla := last_at hql
          have hxl' : L[((l.length : Int) - 1).toNat]? = some xl := by rw [show ((l.length : Int) - 1).toNat = l.length - 1 by omega]; exact hxl
          refine Zg (Zdmt rfl) rfl rfl rfl rfl<|Zg (X.fldB (j := 0) Zu71 rfl rfl Zs69 rfl) rfl rfl rfl rfl<|Zg (X.load1B Zi69 (hB6.keep ((hk9.trans hk12).trans hk14)) rfl rfl) rfl rfl rfl rfl<|Zg (Zdmi rfl) rfl rfl rfl rfl<|Zg (X.idxS (hsv.keep ((hk9.trans hk12).trans hk14)) Zu69 Zs76 rfl rfl ⟨by omega, by omega⟩) rfl rfl rfl rfl<|Zg (X.fldA Zu76 rfl rfl Zs38) rfl rfl rfl rfl<|Zg (X.loadSf (o := 2) Zi38 (hsv.keep ((hk9.trans hk12).trans hk14)) hxl' rfl (fun _ h => by rw [h.1]; rfl)) rfl rfl rfl rfl ?_
          refine Zg (Zdms rfl) rfl rfl rfl rfl<|X.opE (X.wG rfl rfl rfl) rfl (X.callE (R02Compare_c _ (hqs.keep ((hk9.trans hk12).trans hk14)) hs5) Tryz.call17 rfl rfl) ?_
          rintro _ w16 ⟨rfl, hk16⟩
          have hk16' := hk16.size
          refine X.opP (X.wG rfl rfl rfl) rfl rfl (X.geq rfl rfl) (fun h109 => ?_) (fun h109 => ?_)
          ·
           refine Zg (ZdTt rfl rfl) rfl rfl rfl rfl<|Zo (ZdFt rfl rfl) rfl<|Ze<|Zt rfl<|Zs<|Zr<|Zo (X.loadNB Zi71 Zs71 (hB6.keep (((hk9.trans hk12).trans hk14).trans hk16)) rfl rfl rfl) rfl<|Zc (X.storeNE Zs71 (hB4.keep (((hk9.trans hk12).trans hk14).trans hk16)) rfl rfl rfl rfl (fun u hu => by simp at hu; rcases hu with rfl | rfl <;> rfl)) rfl ?_
           rintro _ w17 ⟨hB17, hx17, hz17⟩
           refine Zoa rfl rfl<|Ze ?_
           refine X.ret_unw (X.unwR2 Zf68 Zr68 (X.ResOk.cell rfl (X.lvN Zi71 Zs71 hB17 rfl)) (show X.ResOk _ _ _ (.tmp 5) (.bool _) from rfl) ?_)
           have hN : idx3 all xs = none := by rw [hE, hki, parts_4 (z := (t3, _)) hz3 hz4 hz5 (.inr (by rw [hla]; exact decide_eq_true h109))]; rfl
           rw [hN]
           exact ⟨⟨_, _, _, _, rfl⟩, (((((hk.trans hk9).trans hk12).trans hk14).trans hk16).step hx17 zq10)⟩
          ·have hbad : ¬ badL (lastT l) t = true := by rw [hla]; exact fun h => h109 (of_decide_eq_true h)
           clear h109
           refine Zg (ZdTf rfl rfl) rfl rfl rfl rfl<|Zo (ZdFf rfl rfl) rfl<|Ze<|Zf rfl<|Zk<|Zs<|Zr<|Zo (X.fldB (j := 0) Zu71 rfl rfl Zs69 rfl) rfl<|Zo (X.load1B Zi69 (hB6.keep (((hk9.trans hk12).trans hk14).trans hk16)) rfl rfl) rfl<|Zomi rfl rfl<|Zomu rfl rfl<|Zo (X.cvI Zu119 Zu3 rfl (X.w_i64 Zz)) rfl<|Zoms rfl rfl<|Zo (X.buildB (vs := [(0, .int .i64 (a : Int)), (1, .int .i64 (t3 : Int)), (2, .slice A5 t.length c5)]) (cs := #[.int .i64 (a : Int), .int .i64 (t3 : Int), .slice A5 t.length c5]) rfl Zl) rfl<|Zc (X.litKF KLf_flat (K := KLf) (xs := [Operand.tmp 119]) (vs := [evLf (a, t3, (A5, t.length, c5))]) (ys := [(a, t3, (A5, t.length, c5))]) Zu69 Zs76 Tryz.zeroValue76 rfl rfl rfl rfl rfl (repsLf _)) rfl ?_
           rintro _ w18 ⟨rfl, hs18, hB18, hk18, hz18⟩
           refine Zc (NRow.app (y := (a, t3, (A5, t.length, c5))) (q := (a, t3, t)) (hNR.keep ((((hk9.trans hk12).trans hk14).trans hk16).trans hk18)) hs18 ⟨rfl, rfl, hc5, _, _, fun _ h1 h2 => ⟨h1, h2⟩, hs5.keep (hk16.trans hk18)⟩ Zz Zz Zz Zu69 EPl rfl rfl Zz) rfl ?_
           rintro _ w19 ⟨Aq, cq, S', G', rfl, hNn, hx19⟩
           have hx19' := hx19.size
           refine Zo (X.fldB (j := 0) Zu71 rfl rfl Zs69 rfl) rfl<|Zc (X.storeE Zs69 ((hB6.keep ((((hk9.trans hk12).trans hk14).trans hk16).trans hk18)).ext hx19 zq1) rfl rfl rfl rfl) rfl ?_
           rintro _ w20 ⟨hB20, hx20, hz20⟩
           refine Ze<|Zs<|Zr<|Zomi rfl rfl<|Zomu rfl rfl<|Zo (X.cvI Zu119 Zu3 rfl (X.w_i64 Zz)) rfl<|Zo (X.add (c := ((a + t3 : Nat) : Int)) rfl rfl (by rw [X.w_i64 Zz]; omega)) rfl ?_
           refine Zoai rfl rfl<|Ze<|Zr<|Zoms rfl rfl<|Zomi rfl rfl<|Zomi rfl rfl<|Zo (X.add (c := ((k3 + k4 : Nat) : Int)) rfl rfl (by rw [X.w_i64 Zz]; omega)) rfl ?_
           refine Zo (X.cutL Zu43 Zs5 rfl rfl Zz) rfl<|Zoas rfl rfl<|Ze<|Zi<|Zr<|Zomu rfl rfl<|Zo (X.add (c := ((i + 1 : Nat) : Int)) rfl rfl (by rw [X.w_u64 Zz]; omega)) rfl ?_
           refine Zoau rfl rfl<|Ze ?_
           refine hback (i + 1, a + t3, .slice Aq (l ++ [(a, t3, t)]).length cq, _, _, _, x9.drop (k3 + k4)) _ _ ⟨rfl, rfl, rfl, rfl, rfl, rfl, rfl, trivial⟩ ⟨by (try dsimp only); omega, by (try dsimp only); omega, (((((((hk.trans hk9).trans hk12).trans hk14).trans hk16).trans hk18).step hx19 zq10).step hx20 zq10), (((hB4.keep ((((hk9.trans hk12).trans hk14).trans hk16).trans hk18)).ext hx19 zq1).ext hx20 zq1), hB20, ?_, ?_, by (try dsimp only); omega, ((((hs9.drop (k3 + k4) c9 Zz Zz).keep ((((hk9.trans hk12).trans hk14).trans hk16).trans hk18)).ext hx19 zq1).ext hx20 zq1), L ++ [_], l ++ [(a, t3, t)], S', G', ((hNn.ext hx20 zq1)).all, ?_, ?_⟩ ?_
           ·(try dsimp only); rw [List.length_drop]; omega
           ·(try dsimp only); omega
           ·(try dsimp only); rw [List.length_append, List.length_singleton]; omega
           ·(try dsimp only); rw [hE, hki, parts_5 (z := (t3, _)) hz3 hz4 hz5 (by intro hh; rcases hh with hh | hh; omega; exact hbad hh), map_snoc, lastT_snoc, show t1 - (i + 1) = k by omega, List.drop_drop]
           ·(try dsimp only); omega
         ·have hbad : ¬ badL (lastT l) t = true := by rw [last_nil Zz]; exact fun h => by cases h
          refine Zg (Zdmf rfl) rfl rfl rfl rfl<|Zp rfl rfl rfl<|Zp rfl rfl rfl<|Zp rfl rfl rfl<|Zp rfl rfl rfl<|Zp rfl rfl rfl<|Zp rfl rfl rfl<|Zp rfl rfl rfl<|Zp rfl rfl rfl<|Zp rfl rfl rfl<|Zg (ZdFf rfl rfl) rfl rfl rfl rfl<|Zo (ZdFf rfl rfl) rfl<|Ze<|Zf rfl<|Zk<|Zs<|Zr<|Zo (X.fldB (j := 0) Zu71 rfl rfl Zs69 rfl) rfl<|Zo (X.load1B Zi69 (hB6.keep ((hk9.trans hk12).trans hk14)) rfl rfl) rfl<|Zomi rfl rfl<|Zomu rfl rfl<|Zo (X.cvI Zu119 Zu3 rfl (X.w_i64 Zz)) rfl<|Zoms rfl rfl<|Zo (X.buildB (vs := [(0, .int .i64 (a : Int)), (1, .int .i64 (t3 : Int)), (2, .slice A5 t.length c5)]) (cs := #[.int .i64 (a : Int), .int .i64 (t3 : Int), .slice A5 t.length c5]) rfl Zl) rfl<|Zc (X.litKF KLf_flat (K := KLf) (xs := [Operand.tmp 119]) (vs := [evLf (a, t3, (A5, t.length, c5))]) (ys := [(a, t3, (A5, t.length, c5))]) Zu69 Zs76 Tryz.zeroValue76 rfl rfl rfl rfl rfl (repsLf _)) rfl ?_
          rintro _ w21 ⟨rfl, hs21, hB21, hk21, hz21⟩
          refine Zc (NRow.app (y := (a, t3, (A5, t.length, c5))) (q := (a, t3, t)) (hNR.keep (((hk9.trans hk12).trans hk14).trans hk21)) hs21 ⟨rfl, rfl, hc5, _, _, fun _ h1 h2 => ⟨h1, h2⟩, hs5.keep hk21⟩ Zz Zz Zz Zu69 EPl rfl rfl Zz) rfl ?_
          rintro _ w22 ⟨Aq, cq, S', G', rfl, hNn, hx22⟩
          have hx22' := hx22.size
          refine Zo (X.fldB (j := 0) Zu71 rfl rfl Zs69 rfl) rfl<|Zc (X.storeE Zs69 ((hB6.keep (((hk9.trans hk12).trans hk14).trans hk21)).ext hx22 zq1) rfl rfl rfl rfl) rfl ?_
          rintro _ w23 ⟨hB23, hx23, hz23⟩
          refine Ze<|Zs<|Zr<|Zomi rfl rfl<|Zomu rfl rfl<|Zo (X.cvI Zu119 Zu3 rfl (X.w_i64 Zz)) rfl<|Zo (X.add (c := ((a + t3 : Nat) : Int)) rfl rfl (by rw [X.w_i64 Zz]; omega)) rfl ?_
          refine Zoai rfl rfl<|Ze<|Zr<|Zoms rfl rfl<|Zomi rfl rfl<|Zomi rfl rfl<|Zo (X.add (c := ((k3 + k4 : Nat) : Int)) rfl rfl (by rw [X.w_i64 Zz]; omega)) rfl ?_
          refine Zo (X.cutL Zu43 Zs5 rfl rfl Zz) rfl<|Zoas rfl rfl<|Ze<|Zi<|Zr<|Zomu rfl rfl<|Zo (X.add (c := ((i + 1 : Nat) : Int)) rfl rfl (by rw [X.w_u64 Zz]; omega)) rfl ?_
          refine Zoau rfl rfl<|Ze ?_
          refine hback (i + 1, a + t3, .slice Aq (l ++ [(a, t3, t)]).length cq, _, _, _, x9.drop (k3 + k4)) _ _ ⟨rfl, rfl, rfl, rfl, rfl, rfl, rfl, trivial⟩ ⟨by (try dsimp only); omega, by (try dsimp only); omega, ((((((hk.trans hk9).trans hk12).trans hk14).trans hk21).step hx22 zq10).step hx23 zq10), (((hB4.keep (((hk9.trans hk12).trans hk14).trans hk21)).ext hx22 zq1).ext hx23 zq1), hB23, ?_, ?_, by (try dsimp only); omega, ((((hs9.drop (k3 + k4) c9 Zz Zz).keep (((hk9.trans hk12).trans hk14).trans hk21)).ext hx22 zq1).ext hx23 zq1), L ++ [_], l ++ [(a, t3, t)], S', G', ((hNn.ext hx23 zq1)).all, ?_, ?_⟩ ?_
          ·(try dsimp only); rw [List.length_drop]; omega
          ·(try dsimp only); omega
          ·(try dsimp only); rw [List.length_append, List.length_singleton]; omega
          ·(try dsimp only); rw [hE, hki, parts_5 (z := (t3, _)) hz3 hz4 hz5 (by intro hh; rcases hh with hh | hh; omega; exact hbad hh), map_snoc, lastT_snoc, show t1 - (i + 1) = k by omega, List.drop_drop]
          ·(try dsimp only); omega
    ·refine Ze<|Zf rfl<|Zx rfl<|Zs<|Zr<|Zo (X.loadNB Zi71 Zs71 hB6 rfl rfl rfl) rfl<|Zoms rfl rfl<|Zo (X.lenSl Zu43 rfl) rfl<|X.opP X.wN rfl rfl (X.eqI rfl rfl) (fun h135 => ?_) (fun h135 => ?_)
     ·refine Zomt rfl rfl<|Zg (Zdmi rfl) rfl rfl rfl rfl<|Zg (Zdmi rfl) rfl rfl rfl rfl<|Zg (X.eqI rfl rfl) rfl rfl rfl rfl<|Zo (ZdTo rfl rfl) rfl<|Zc (X.storeNE Zs71 hB4 rfl rfl rfl rfl (fun u hu => by simp at hu; rcases hu with rfl | rfl <;> rfl)) rfl ?_
      rintro _ w24 ⟨hB24, hx24, hz24⟩
      refine Zoao rfl rfl<|Ze ?_
      refine X.ret_unw (X.unwR2 Zf68 Zr68 (X.ResOk.cell rfl (X.lvN Zi71 Zs71 hB24 rfl)) (show X.ResOk _ _ _ (.tmp 5) (.bool _) from rfl) ?_)
      by_cases hal : a = all
      ·have hfin : idx3 all xs = some (l, t2) := by
         rw [hE, show t1 - i = 0 by omega, parts, if_pos ⟨List.eq_nil_of_length_eq_zero Zz, hal⟩]; simp
       rw [hfin]
       obtain ⟨Az, cz, ez, hcz, hLz⟩ := nrow_lf ((hNR.ext hx24 zq1))
       injection ez with ez1 ez2 ez3
       subst ez1 ez3
       obtain ⟨L', g1, g2⟩ := hLz
       exact ⟨⟨_, _, by rw [decide_eq_true Zz]; rfl, hcz, L', g1.wide Zz Zz, Nd.All.mono g2 fun q hq => ⟨by have := hq.1; omega, by have := hq.2; omega⟩⟩, (hk.step hx24 zq10)⟩
      ·have hN : idx3 all xs = none := by rw [hE, show t1 - i = 0 by omega, parts, if_neg (fun h => hal h.2)]; rfl
       rw [hN]
       exact ⟨⟨_, _, _, _, by rw [decide_eq_false Zz]; rfl⟩, (hk.step hx24 zq10)⟩
     ·refine Zomf rfl rfl<|Zp rfl rfl rfl<|Zp rfl rfl rfl<|Zp rfl rfl rfl<|Zo (ZdFf rfl rfl) rfl<|Zc (X.storeNE Zs71 hB4 rfl rfl rfl rfl (fun u hu => by simp at hu; rcases hu with rfl | rfl <;> rfl)) rfl ?_
      rintro _ w25 ⟨hB25, hx25, hz25⟩
      refine Zoaf rfl rfl<|Ze ?_
      refine X.ret_unw (X.unwR2 Zf68 Zr68 (X.ResOk.cell rfl (X.lvN Zi71 Zs71 hB25 rfl)) (show X.ResOk _ _ _ (.tmp 5) (.bool _) from rfl) ?_)
      have hN : idx3 all xs = none := by rw [hE, show t1 - i = 0 by omega, parts, if_neg (fun h => by rw [h.1] at h9l; simp at h9l; omega)]; rfl
      rw [hN]
      exact ⟨⟨_, _, _, _, rfl⟩, (hk.step hx25 zq10)⟩
def leH : List UInt8 → Nat
  | [] => 0
  | c :: l => leH l * 256 + c.toNat
theorem leH_4 {t : List UInt8} (h : t.length = 4) : leH t = le4 t := by
  obtain ⟨a, b, c, d, rfl⟩ := list4 h
  simp only [leH, le4, List.getD_cons_zero, List.getD_cons_succ]; omega
theorem leH_le : ∀ {l : List UInt8}, l.length ≤ 4 → leH l ≤ 4294967295
  | [], _ => by simp [leH]
  | [a], _ => by have := a.toNat_lt; simp only [leH]; omega
  | [a, b], _ => by have := a.toNat_lt; have := b.toNat_lt; simp only [leH]; omega
  | [a, b, c], _ => by have := a.toNat_lt; have := b.toNat_lt; have := c.toNat_lt; simp only [leH]; omega
  | [a, b, c, d], _ => by have := a.toNat_lt; have := b.toNat_lt; have := c.toNat_lt; have := d.toNat_lt; simp only [leH]; omega
  | _ :: _ :: _ :: _ :: _ :: l, h => by simp only [List.length_cons] at h; omega
theorem leH_at {l : List UInt8} {i : Nat} {c : UInt8} (h : l[i]? = some c) : leH (l.drop i) = leH (l.drop (i + 1)) * 256 + c.toNat := by
  obtain ⟨h1, h2⟩ := List.getElem?_eq_some_iff.1 h
  rw [List.drop_eq_getElem_cons h1, h2, leH]
theorem RRI_c {lo hi : Nat} {A : Option Addr} {n c : Nat} {xs : List UInt8} (w : World) (hs : Sl KB lo hi w A n xs) (hhi : hi ≤ w.heap.size) (hnc : n ≤ c) (hn : n ≤ 1000000) : Ret Tryz.prog 29 #[.slice A n c] w fun r w' => (match idxP xs with
    | some (l, k) => ∃ A' c', r = .tuple #[.agg #[.slice A' l.length c', .int .i64 (k : Int)], .bool true] ∧ l.length ≤ c' ∧ LfS w.heap.size w'.heap.size w' A' l.length l
    | none => ∃ a1 a2 a3 k, r = .tuple #[.agg #[.slice a1 a2 a3, .int .i64 k], .bool false]) ∧ Keep w w' := by
 have hsl := hs.len
 refine X.enter Zf29 rfl Tryz.ntmps29 rfl<|Zs<|Zr<|Zc (X.allocE Zv71 rfl) rfl ?_
 rintro _ w1 ⟨rfl, hB1, hk1, hz1⟩
 refine Zoa rfl rfl<|Ze<|Zs<|Zr<|Zc (X.allocE Zv71 rfl) rfl ?_
 rintro _ w2 ⟨rfl, hB2, hk2, hz2⟩
 refine Ze<|Zs<|Zs<|Zr<|Zoms rfl rfl<|Zo (X.lenSl Zu43 rfl) rfl<|X.opP X.wN rfl rfl (X.lss rfl rfl) (fun h14 => ?_) (fun h14 => ?_)
 ·
  refine Ze<|Zt rfl<|Zs<|Zr<|Zo (X.loadNB Zi71 Zs71 hB2 rfl rfl rfl) rfl<|Zc (X.storeNE Zs71 (hB1.keep hk2) rfl rfl rfl rfl (fun u hu => by simp at hu; rcases hu with rfl | rfl <;> rfl)) rfl ?_
  rintro _ w3 ⟨hB3, hx3, hz3⟩
  refine Zoa rfl rfl<|Ze ?_
  refine X.ret_unw (X.unwR2 Zf29 Zr29 (X.ResOk.cell rfl (X.lvN Zi71 Zs71 hB3 rfl)) (show X.ResOk _ _ _ (.tmp 3) (.bool _) from rfl) ?_)
  have hN9 : idxP xs = none := by exact idx_a Zz
  rw [hN9]
  exact ⟨⟨_, _, _, _, rfl⟩, ((hk1.trans hk2).step hx3 zq10)⟩
 ·refine Ze<|Zf rfl<|Zk<|Zs<|Zr<|Zoms rfl rfl<|Zoms rfl rfl<|Zo (X.lenSl Zu43 rfl) rfl<|Zo (X.sub (c := ((n - 8 : Nat) : Int)) rfl rfl (by rw [X.w_i64 Zz]; omega)) rfl ?_
  refine Zo (X.cutL Zu43 Zs5 rfl rfl Zz) rfl<|Zc (X.callE (ROpen_c _ ((hs.drop (n - 8) c Zz Zz).keep (hk1.trans hk2)) Zz Zz) Zc67 rfl rfl) rfl ?_
  rintro _ w4 ⟨v4, rfl, hF4⟩
  obtain ⟨Ao1, co1, rfl, hco1, hso1, hk4⟩ := open_sl hF4
  have hk4' := hk4.size
  refine Zom rfl rfl<|Zo (X.extr rfl rfl) rfl<|Zo (X.extr rfl rfl) rfl<|Zoas rfl rfl<|Zoai rfl rfl<|Ze<|Zs<|Zs<|Zr<|Zomi rfl rfl<|X.opP X.wN rfl rfl (X.neI rfl rfl) (fun h26 => ?_) (fun h26 => ?_)
  ·
   refine Ze<|Zt rfl<|Zs<|Zr<|Zo (X.loadNB Zi71 Zs71 (hB2.keep hk4) rfl rfl rfl) rfl<|Zc (X.storeNE Zs71 (hB1.keep (hk2.trans hk4)) rfl rfl rfl rfl (fun u hu => by simp at hu; rcases hu with rfl | rfl <;> rfl)) rfl ?_
   rintro _ w5 ⟨hB5, hx5, hz5⟩
   refine Zoa rfl rfl<|Ze ?_
   refine X.ret_unw (X.unwR2 Zf29 Zr29 (X.ResOk.cell rfl (X.lvN Zi71 Zs71 hB5 rfl)) (show X.ResOk _ _ _ (.tmp 3) (.bool _) from rfl) ?_)
   have hN9 : idxP xs = none := by subst hsl; exact idx_b Zz h26
   rw [hN9]
   exact ⟨⟨_, _, _, _, rfl⟩, (((hk1.trans hk2).trans hk4).step hx5 zq10)⟩
  ·have ho1 := Classical.byContradiction h26
   obtain ⟨g1, g2⟩ := open_len ho1
   have hT4 : (openC (xs.drop (n - 8))).2.length = 4 := by rw [g2, List.length_take, List.length_drop]; omega
   have hE1 : idxP xs = idx2 xs (openC (xs.drop (n - 8))).2 := by subst hsl; exact idx_c Zz ho1
   refine Ze<|Zf rfl<|Zk<|Zs<|Zr<|Zoa rfl rfl<|Ze<|Zs<|Zs<|Zr<|Zoa rfl rfl<|Ze<|Zb ?_
   have hKI := ((hk1.trans hk2).trans hk4)
   have hB2I := (hB1.keep (hk2.trans hk4))
   have hB4I := (hB2.keep hk4)
   have hoI := hso1
   refine X.loopL (σ := Nat × Nat) (fun s => [(0, .slice A n c), (2, .pointer (some ⟨w.heap.size, 0, none⟩)), (4, .pointer (some ⟨w1.heap.size, 0, none⟩)), (5, .slice Ao1 (openC (xs.drop (n - 8))).2.length co1), (7, .int .i64 (s.2 : Int)), (8, .int .i64 ((s.1 : Int) - 1))]) (fun s w' => s.1 ≤ 4 ∧ s.2 = leH ((openC (xs.drop (n - 8))).2.drop s.1) ∧ Keep w4 w') (fun s => s.1) (4, 0) ⟨rfl, rfl, rfl, rfl, rfl, rfl, trivial⟩ ⟨Nat.le_refl _, by (try dsimp only); rw [List.drop_of_length_le Zz]; rfl, Keep.refl _⟩ ?_
   rintro ⟨j, N⟩ b wo ⟨hj, hN, hkE⟩ hback
   dsimp only at hj hN
   have hk0 := hkE.size
   have hNb := leH_le (l := (openC (xs.drop (n - 8))).2.drop j) (by rw [List.length_drop]; omega)
   rw [← hN] at hNb
   have hkW := hKI.trans hkE
   refine Zs<|Zs<|Zr<|Zomi rfl rfl<|X.opP X.wN rfl rfl (X.geq rfl rfl) (fun h29 => ?_) (fun h29 => ?_)
   ·obtain ⟨y, hy⟩ : ∃ y, (openC (xs.drop (n - 8))).2[j - 1]? = some y := ⟨_, List.getElem?_eq_getElem Zz⟩
    have hy' : (openC (xs.drop (n - 8))).2[((j : Int) - 1).toNat]? = some y := by rw [show ((j : Int) - 1).toNat = j - 1 by omega]; exact hy
    have hyl := y.toNat_lt
    have hyn := leH_at hy
    rw [show j - 1 + 1 = j by omega, ← hN] at hyn
    refine Ze<|Zt rfl<|Zk<|Zs<|Zb<|Zr<|Zomi rfl rfl<|Zo (X.mul rfl rfl (X.w_i64 Zz)) rfl<|Zoms rfl rfl<|Zomi rfl rfl<|Zo (X.idxS (hoI.keep hkE) Zu43 Zs5 rfl rfl ⟨by omega, by omega⟩) rfl<|Zo (X.loadS Zi5 (hoI.keep hkE) hy' rfl (fun _ h => by rw [h.1]; rfl)) rfl ?_
    refine Zo (X.cvI Zu5 Zu3 rfl (X.w_i64 Zz)) rfl<|Zo (X.add (c := ((N * 256 + y.toNat : Nat) : Int)) rfl rfl (by rw [X.w_i64 Zz]; omega)) rfl ?_
    refine Zoai rfl rfl<|Ze<|Zi<|Zr<|Zomi rfl rfl<|Zo (X.sub (c := ((j - 1 : Nat) : Int) - 1) rfl rfl (by rw [X.w_i64 Zz]; omega)) rfl ?_
    refine Zoai rfl rfl<|Ze ?_
    refine hback (j - 1, N * 256 + y.toNat) _ _ ⟨rfl, rfl, rfl, rfl, rfl, rfl, trivial⟩ ⟨by (try dsimp only); omega, by (try dsimp only); rw [hyn], hkE⟩ (by (try dsimp only); omega)
   ·have hj0 : j = 0 := by omega
    subst hj0
    rw [List.drop_zero, leH_4 hT4] at hN
    refine Ze<|Zf rfl<|Zx rfl<|Zs<|Zs<|Zr<|Zomi rfl rfl<|Zoms rfl rfl<|Zo (X.lenSl Zu43 rfl) rfl<|Zo (X.sub (c := ((n - 8 : Nat) : Int)) rfl rfl (by rw [X.w_i64 Zz]; omega)) rfl ?_
    refine X.opP X.wN rfl rfl (X.gtr rfl rfl) (fun h44 => ?_) (fun h44 => ?_)
    ·
     refine Ze<|Zt rfl<|Zs<|Zr<|Zo (X.loadNB Zi71 Zs71 (hB4I.keep hkE) rfl rfl rfl) rfl<|Zc (X.storeNE Zs71 (hB2I.keep hkE) rfl rfl rfl rfl (fun u hu => by simp at hu; rcases hu with rfl | rfl <;> rfl)) rfl ?_
     rintro _ w6 ⟨hB6, hx6, hz6⟩
     refine Zoa rfl rfl<|Ze ?_
     refine X.ret_unw (X.unwR2 Zf29 Zr29 (X.ResOk.cell rfl (X.lvN Zi71 Zs71 hB6 rfl)) (show X.ResOk _ _ _ (.tmp 3) (.bool _) from rfl) ?_)
     have hN9 : idxP xs = none := by rw [hE1]; exact idx_d (by rw [← hN, hsl]; omega)
     rw [hN9]
     exact ⟨⟨_, _, _, _, rfl⟩, (hkW.step hx6 zq10)⟩
    ·refine Ze<|Zf rfl<|Zk<|Zs<|Zr<|Zoms rfl rfl<|Zo (X.lenSl Zu43 rfl) rfl<|Zo (X.sub (c := ((n - 8 : Nat) : Int)) rfl rfl (by rw [X.w_i64 Zz]; omega)) rfl ?_
     refine Zomi rfl rfl<|Zo (X.sub (c := ((n - 8 - N : Nat) : Int)) rfl rfl (by rw [X.w_i64 Zz]; omega)) rfl ?_
     refine Zoai rfl rfl<|Ze<|Zs<|Zr<|Zoms rfl rfl<|Zomi rfl rfl<|Zomi rfl rfl<|Zomi rfl rfl<|Zo (X.add (c := ((n - 8 - N + N : Nat) : Int)) rfl rfl (by rw [X.w_i64 Zz]; omega)) rfl ?_
     refine Zo (X.cutLH Zu43 Zs5 rfl rfl rfl Zz) rfl<|Zc (X.callE (ROpen_c _ (((hs.keep hkW).take (n - 8 - N + N) Zz).drop (n - 8 - N) c Zz Zz) Zz Zz) Zc67 rfl rfl) rfl ?_
     rintro _ w7 ⟨v7, rfl, hF7⟩
     obtain ⟨Ao2, co2, rfl, hco2, hso2, hk7⟩ := open_sl hF7
     have hk7' := hk7.size
     refine Zom rfl rfl<|Zo (X.extr rfl rfl) rfl<|Zo (X.extr rfl rfl) rfl<|Zoas rfl rfl<|Zoai rfl rfl<|Ze<|Zs<|Zs<|Zr<|Zomi rfl rfl<|X.opP X.wN rfl rfl (X.neI rfl rfl) (fun h62 => ?_) (fun h62 => ?_)
     ·
      refine Ze<|Zt rfl<|Zs<|Zr<|Zo (X.loadNB Zi71 Zs71 ((hB4I.keep hkE).keep hk7) rfl rfl rfl) rfl<|Zc (X.storeNE Zs71 ((hB2I.keep hkE).keep hk7) rfl rfl rfl rfl (fun u hu => by simp at hu; rcases hu with rfl | rfl <;> rfl)) rfl ?_
      rintro _ w8 ⟨hB8, hx8, hz8⟩
      refine Zoa rfl rfl<|Ze ?_
      refine X.ret_unw (X.unwR2 Zf29 Zr29 (X.ResOk.cell rfl (X.lvN Zi71 Zs71 hB8 rfl)) (show X.ResOk _ _ _ (.tmp 3) (.bool _) from rfl) ?_)
      have hN9 : idxP xs = none := by rw [hE1]; subst hsl; subst hN; exact idx_e Zz h62
      rw [hN9]
      exact ⟨⟨_, _, _, _, rfl⟩, ((hkW.trans hk7).step hx8 zq10)⟩
     ·have ho2 := Classical.byContradiction h62
      obtain ⟨g3, g4⟩ := open_len ho2
      have hx0 : (openC ((xs.take (n - 8 - N + N)).drop (n - 8 - N))).2.length ≤ 1000000 := by rw [g4, List.length_take, List.length_drop, List.length_take]; omega
      refine Ze<|Zf rfl<|Zk<|Zs<|Zr<|Zoms rfl rfl<|Zomi rfl rfl<|Zc (X.callE (Rparts_c (n - 8 - N) Zz _ hso2 Zz Zz Zz) Tryz.call68 rfl rfl) rfl ?_
      rintro vp w9 ⟨hpm, hk9⟩
      have hvp : ∃ b1 b2 b3 b4 b5, vp = .tuple #[.agg #[.slice b1 b2 b3, .int .i64 b4], .bool b5] := by
        revert hpm
        cases idx3 (n - 8 - N) (openC ((xs.take (n - 8 - N + N)).drop (n - 8 - N))).2 with
        | none => rintro ⟨a1, a2, a3, k, rfl⟩; exact ⟨_, _, _, _, _, rfl⟩
        | some p => rintro ⟨A, c, rfl, _⟩; exact ⟨_, _, _, _, _, rfl⟩
      obtain ⟨b1, b2, b3, b4, b5, rfl⟩ := hvp
      have hk9' := hk9.size
      refine Zo (X.extr rfl rfl) rfl<|Zo (X.extr rfl rfl) rfl<|Zc (X.storeNE Zs71 ((hB2I.keep hkE).keep (hk7.trans hk9)) rfl rfl rfl rfl (fun u hu => by simp at hu; rcases hu with rfl | rfl <;> rfl)) rfl ?_
      rintro _ w10 ⟨hB10, hx10, hz10⟩
      refine Zoao rfl rfl<|Ze ?_
      refine X.ret_unw (X.unwR2 Zf29 Zr29 (X.ResOk.cell rfl (X.lvN Zi71 Zs71 hB10 rfl)) (show X.ResOk _ _ _ (.tmp 3) (.bool _) from rfl) ?_)
      have hE2 : idxP xs = idx3 (n - 8 - N) (openC ((xs.take (n - 8 - N + N)).drop (n - 8 - N))).2 := by
        rw [hE1]; subst hsl; subst hN; exact idx_f Zz (Classical.byContradiction h62)
      rw [hE2]
      refine ⟨?_, (((hkW.trans hk7).trans hk9).step hx10 zq10)⟩
      revert hpm
      cases idx3 (n - 8 - N) (openC ((xs.take (n - 8 - N + N)).drop (n - 8 - N))).2 with
      | none => rintro ⟨a1, a2, a3, k, e⟩; injection e with e; cases e; exact ⟨_, _, _, _, rfl⟩
      | some p =>
        rintro ⟨A', c', e, hc, L', g1, g2⟩
        injection e with e; cases e
        have hL9 : LfS _ _ _ _ _ _ := ⟨L', g1, g2⟩
        have hL8 := hL9.ext hx10 (fun q g1 g2 g3 => by have g3 : q = _ := g3; omega)
        obtain ⟨L7, f1, f2⟩ := hL8
        exact ⟨_, _, rfl, hc, L7, f1.wide Zz Zz, Nd.All.mono f2 fun q hq => ⟨by have := hq.1; omega, by have := hq.2; omega⟩⟩
theorem Rpage_c {lo hi lo1 hi1 : Nat} {A A1 : Option Addr} {n c n1 c1 : Nat} {xs : List UInt8} {t : List VAL} (w : World) (hs : Sl KB lo hi w A n xs) (hhi : hi ≤ w.heap.size) (hnc : n ≤ c) (hn : n ≤ 1000000) (ht : Sl KV lo1 hi1 w A1 n1 t) (hh1 : hi1 ≤ w.heap.size) : Ret Tryz.prog 66 #[.slice A n c, .slice A1 n1 c1] w fun r w' => (match pgP xs t with
    | some l => ∃ v L m S G, r = .tuple #[v, .bool true] ∧ NRow NdCt 40 w.heap.size m S G w' v L l
    | none => r = .tuple #[.slice none 0 0, .bool false]) ∧ Keep w w' := by
 have hsl := hs.len
 refine X.enter Zf66 rfl Tryz.ntmps66 rfl<|Zs<|Zr<|Zoa rfl rfl<|Zoa rfl rfl<|Ze<|Zs<|Zr<|Zoms rfl rfl<|Zc (X.callE (ROpen_c _ hs Zz Zz) Zc67 rfl rfl) rfl ?_
 rintro _ w1 ⟨v1, rfl, hF1⟩
 obtain ⟨Ao, co, rfl, hco, hso, hk1⟩ := open_sl hF1
 have hk1' := hk1.size
 refine Zom rfl rfl<|Zo (X.extr rfl rfl) rfl<|Zo (X.extr rfl rfl) rfl<|Zoas rfl rfl<|Zoai rfl rfl<|Ze<|Zs<|Zs<|Zr<|Zomi rfl rfl<|X.opP X.wN rfl rfl (X.neI rfl rfl) (fun h22 => ?_) (fun h22 => ?_)
 ·
  refine Ze<|Zt rfl<|Zs<|Zr<|Zoa rfl rfl<|Zoa rfl rfl<|Ze<|X.ret2 (v2 := (.bool _)) Zf66 Zr66 rfl rfl ?_
  have hN9 : pgP xs t = none := by exact pg_a h22
  rw [hN9]
  exact ⟨rfl, hk1⟩
 ·have ho1 := Classical.byContradiction h22
  obtain ⟨g1, g2⟩ := open_len ho1
  have hx0 : (openC xs).2.length ≤ 1000000 := by rw [g2, List.length_take]; omega
  refine Ze<|Zf rfl<|Zk<|Zs<|Zr<|Zoms rfl rfl<|Zc (X.callE (RTN_c _ hso Zz Zz) Zc112 rfl rfl) rfl ?_
  rintro _ w2 ⟨t1, k1, e1, rfl, ht1, hE1, hZ1, hk2⟩
  have hk2' := hk2.size
  refine Zom rfl rfl<|Zo (X.extr rfl rfl) rfl<|Zo (X.extr rfl rfl) rfl<|Zo (X.extr rfl rfl) rfl<|Zoau rfl rfl<|Zoai rfl rfl<|Zoai rfl rfl<|Ze<|Zs<|Zs<|Zr<|Zomi rfl rfl<|X.opP X.wN rfl rfl (X.neI rfl rfl) (fun h30 => ?_) (fun h30 => ?_)
  ·
   refine Ze<|Zt rfl<|Zs<|Zr<|Zoa rfl rfl<|Zoa rfl rfl<|Ze<|X.ret2 (v2 := (.bool _)) Zf66 Zr66 rfl rfl ?_
   have hN9 : pgP xs t = none := by exact pg_b ho1 (hE1 h30)
   rw [hN9]
   exact ⟨rfl, (hk1.trans hk2)⟩
  ·obtain ⟨_, hz1, rfl, hl1, hp1⟩ := hZ1 (Classical.byContradiction h30)
   clear hE1 hZ1 h30
   refine Ze<|Zf rfl<|Zk<|Zs<|Zr<|Zoms rfl rfl<|Zomi rfl rfl<|Zo (X.cutL Zu43 Zs5 rfl rfl Zz) rfl<|Zoas rfl rfl<|Ze<|Zs<|Zr<|Zoa rfl rfl<|Ze<|Zs<|Zs<|Zr<|Zoa rfl rfl<|Ze<|Zb ?_
   have hE9 : pgP xs t = pgF t (ents t1 ((openC xs).2.drop k1)) := pg_c (z := (t1, _)) ho1 hz1
   have hs0 := ((hso.drop k1 co Zz Zz).keep hk2)
   refine X.loopL (σ := Nat × Value × Option Addr × Nat × Nat × List UInt8) (fun s => [(1, .slice A1 n1 c1), (6, .slice s.2.2.1 s.2.2.2.1 s.2.2.2.2.1), (8, .int .u64 (t1 : Int)), (11, s.2.1), (12, .int .u64 (s.1 : Int))]) (fun s w' => s.1 ≤ t1 ∧ Keep w w' ∧ s.2.2.2.1 = s.2.2.2.2.2.length ∧ s.2.2.2.1 ≤ s.2.2.2.2.1 ∧ w2.heap.size ≤ w'.heap.size ∧ (∃ lo9 hi9, Sl KB lo9 hi9 w' s.2.2.1 s.2.2.2.1 s.2.2.2.2.2 ∧ hi9 ≤ w2.heap.size) ∧ ∃ L l S G, NRow NdCt 40 w2.heap.size w'.heap.size S G w' s.2.1 L l ∧ l.length + s.2.2.2.1 ≤ 1000000 ∧ pgP xs t = pgF t ((ents (t1 - s.1) s.2.2.2.2.2).map (l ++ ·))) (fun s => t1 - s.1) (0, .slice none 0 0, _, _, _, (openC xs).2.drop k1) ⟨rfl, rfl, rfl, rfl, rfl, trivial⟩ ⟨Nat.zero_le _, (hk1.trans hk2), by (try dsimp only); exact hs0.len.symm, by (try dsimp only); omega, by (try dsimp only); omega, ⟨_, _, hs0, by omega⟩, [], [], _, _, NRow.nil _ _ _ _ (Nat.le_refl _), by (try dsimp only); simp only [List.length_nil]; omega, by (try dsimp only); rw [hE9, Nat.sub_zero, ← emap_nil]⟩ ?_
   rintro ⟨i, v, A6, n6, c6, x6⟩ b w1 ⟨hi0, hk, h6l, h6c, hbs, ⟨lo9, hi9, hsx6, hhi9⟩, L, l, S, G, hNR, hll, hE⟩ hback
   dsimp only
   dsimp only at hi0 h6l h6c hsx6 hNR hll hE
   have hk0 := hk.size
   obtain ⟨Av, cv, rfl, hcv, hsv⟩ := hNR.rd
   refine Zs<|Zs<|Zr<|Zomu rfl rfl<|Zomu rfl rfl<|X.opP X.wN rfl rfl (X.lss rfl rfl) (fun h36 => ?_) (fun h36 => ?_)
   ·obtain ⟨k, hki⟩ : ∃ k, t1 - i = k + 1 := ⟨t1 - i - 1, by omega⟩
    refine Ze<|Zt rfl<|Zk<|Zs<|Zb<|Zs<|Zr<|Zoms rfl rfl<|Zc (X.callE (RTC_c _ hsx6 Zz Zz) Tryz.call113 rfl rfl) rfl ?_
    rintro _ w3 ⟨A3, c3, q, k2, e2, rfl, hc3, hs3, hE2, hZ2, hk3⟩
    have hk3' := hk3.size
    refine Zom rfl rfl<|Zo (X.extr rfl rfl) rfl<|Zo (X.extr rfl rfl) rfl<|Zo (X.extr rfl rfl) rfl<|Zc (X.allocE Zv40 rfl) rfl ?_
    rintro _ w4 ⟨rfl, hB4, hk4, hz4⟩
    refine Zc (X.storeNE Zs40 hB4 rfl rfl rfl rfl (fun u hu => by simp at hu; rcases hu with rfl | rfl <;> rfl)) rfl ?_
    rintro _ w5 ⟨hB5, hx5, hz5⟩
    refine Zoai rfl rfl<|Zoai rfl rfl<|Ze<|Zs<|Zs<|Zr<|Zomi rfl rfl<|X.opP X.wN rfl rfl (X.neI rfl rfl) (fun h46 => ?_) (fun h46 => ?_)
    ·
     refine Ze<|Zt rfl<|Zs<|Zr<|Zoa rfl rfl<|Zoa rfl rfl<|Ze<|X.ret2 (v2 := (.bool _)) Zf66 Zr66 rfl rfl ?_
     have hN9 : pgP xs t = none := by rw [hE, hki, ents_a (hE2 h46)]; rfl
     rw [hN9]
     exact ⟨rfl, (((hk.trans hk3).trans hk4).step hx5 zq10)⟩
    ·obtain ⟨_, hz2, rfl, hl2, hp2, hqI⟩ := hZ2 (Classical.byContradiction h46)
     clear hE2 hZ2 h46
     refine Ze<|Zf rfl<|Zk<|Zs<|Zr<|Zom rfl rfl<|Zo (X.loadNB Zi40 Zs40 hB5 rfl rfl rfl) rfl<|Zc (X.litKF KCt_flat (K := KCt) (xs := [Operand.tmp 48]) (vs := [evC ((A3, q.1.length, c3), q.2)]) (ys := [((A3, q.1.length, c3), q.2)]) Zu22 Zs40 Zv40 rfl rfl rfl rfl rfl (repsC _)) rfl ?_
     rintro _ w6 ⟨rfl, hs6, hB6, hk6, hz6⟩
     refine Zc (NRow.app (y := ((A3, q.1.length, c3), q.2)) (q := q) (hNR.keep (((hk3.trans hk4).step hx5 zq10).trans hk6)) hs6 ⟨rfl, hqI, hc3, _, _, fun _ h1 h2 => ⟨h1, h2⟩, (((hs3.keep hk4).ext hx5 (by intro q g1 g2 g3; have g3 : q = _ := g3; omega)).keep hk6)⟩ Zz Zz Zz Zu22 ECt rfl rfl Zz) rfl ?_
     rintro _ w7 ⟨Aq, cq, S', G', rfl, hNn, hx7⟩
     have hx7' := hx7.size
     refine Zoa rfl rfl<|Ze<|Zr<|Zoms rfl rfl<|Zomi rfl rfl<|Zo (X.cutL Zu43 Zs5 rfl rfl Zz) rfl<|Zoas rfl rfl<|Ze<|Zi<|Zr<|Zomu rfl rfl<|Zo (X.add (c := ((i + 1 : Nat) : Int)) rfl rfl (by rw [X.w_u64 Zz]; omega)) rfl ?_
     refine Zoau rfl rfl<|Ze ?_
     refine hback (i + 1, .slice Aq (l ++ [q]).length cq, _, _, _, x6.drop k2) _ _ ⟨rfl, rfl, rfl, rfl, rfl, trivial⟩ ⟨by (try dsimp only); omega, (((((hk.trans hk3).trans hk4).step hx5 zq10).trans hk6).step hx7 zq10), ?_, ?_, by (try dsimp only); omega, ⟨_, _, (((hsx6.drop k2 c6 Zz Zz).keep (((hk3.trans hk4).step hx5 zq10).trans hk6)).ext hx7 zq1), hhi9⟩, L ++ [_], l ++ [q], S', G', (hNn).all, ?_, ?_⟩ ?_
     ·(try dsimp only); rw [List.length_drop]; omega
     ·(try dsimp only); omega
     ·(try dsimp only); rw [List.length_append, List.length_singleton]; omega
     ·(try dsimp only); rw [hE, hki, ents_b (y := (q, _)) hz2, emap_snoc, show t1 - (i + 1) = k by omega]
     ·(try dsimp only); omega
   ·refine Ze<|Zf rfl<|Zx rfl<|Zs<|Zs<|Zr<|Zoms rfl rfl<|Zo (X.lenSl Zu43 rfl) rfl<|X.opP X.wN rfl rfl (X.neI rfl rfl) (fun h56 => ?_) (fun h56 => ?_)
    ·
     refine Zomt rfl rfl<|Zp rfl rfl rfl<|Zp rfl rfl rfl<|Zp rfl rfl rfl<|Zo (ZdTt rfl rfl) rfl<|Zomt rfl rfl<|Zp rfl rfl rfl<|Zp rfl rfl rfl<|Zp rfl rfl rfl<|Zo (ZdTt rfl rfl) rfl<|Zomt rfl rfl<|Zp rfl rfl rfl<|Zp rfl rfl rfl<|Zp rfl rfl rfl<|Zp rfl rfl rfl<|Zp rfl rfl rfl<|Zp rfl rfl rfl<|Zp rfl rfl rfl<|Zo (ZdTt rfl rfl) rfl<|Ze<|Zt rfl<|Zs<|Zr<|Zoa rfl rfl<|Zoa rfl rfl<|Ze<|X.ret2 (v2 := (.bool _)) Zf66 Zr66 rfl rfl ?_
     have hN9 : pgP xs t = none := by rw [hE, show t1 - i = 0 by omega, ents, if_neg (fun h => by rw [h] at h6l; simp at h6l; omega)]; rfl
     rw [hN9]
     exact ⟨rfl, hk⟩
    ·have hx60 : x6 = [] := List.eq_nil_of_length_eq_zero Zz
     have hfin : (ents (t1 - i) x6).map (l ++ ·) = some l := by rw [show t1 - i = 0 by omega, ents, if_pos hx60]; simp
     refine Zomf rfl rfl<|Zg (X.move rfl) rfl rfl rfl rfl<|Zg (X.lenSl Zu22 rfl) rfl rfl rfl rfl<|X.opP (X.wG rfl rfl rfl) rfl rfl (X.eqI rfl rfl) (fun h60 => ?_) (fun h60 => ?_)
     ·
      refine Zo (ZdFt rfl rfl) rfl<|Zomt rfl rfl<|Zp rfl rfl rfl<|Zp rfl rfl rfl<|Zp rfl rfl rfl<|Zo (ZdTt rfl rfl) rfl<|Zomt rfl rfl<|Zp rfl rfl rfl<|Zp rfl rfl rfl<|Zp rfl rfl rfl<|Zp rfl rfl rfl<|Zp rfl rfl rfl<|Zp rfl rfl rfl<|Zp rfl rfl rfl<|Zo (ZdTt rfl rfl) rfl<|Ze<|Zt rfl<|Zs<|Zr<|Zoa rfl rfl<|Zoa rfl rfl<|Ze<|X.ret2 (v2 := (.bool _)) Zf66 Zr66 rfl rfl ?_
      have hN9 : pgP xs t = none := by rw [hE, hfin]; exact pgF_F (fun h => h.1 (List.eq_nil_of_length_eq_zero Zz))
      rw [hN9]
      exact ⟨rfl, hk⟩
     ·have hne : l ≠ [] := fun h => by rw [h] at h60; simp at h60
      have hnp := List.length_pos_iff.2 hne
      obtain ⟨Av', cv', ev, hcv', hkc⟩ := nrow_kc hNR
      injection ev with ev1 ev2 ev3
      subst ev1 ev3
      obtain ⟨x0, hx0'⟩ : ∃ x0, L[0]? = some x0 := ⟨_, List.getElem?_eq_getElem (by rw [hNR.d.1]; omega)⟩
      obtain ⟨q0, hq0, _, _, _, loq, hiq, _, hqs⟩ := hNR.d.2 _ _ hx0'
      have hhq := kv_head (x := x0) hq0
      refine Zo (ZdFf rfl rfl) rfl<|Zomf rfl rfl<|Zg (X.move rfl) rfl rfl rfl rfl<|X.opE (X.wG rfl rfl rfl) rfl (X.callE (RIs_c _ hkc Zz) Tryz.call10 rfl rfl) ?_
      rintro _ w8 ⟨rfl, hk8⟩
      have hk8' := hk8.size
      refine Zg (X.not_ rfl) rfl rfl rfl rfl<|Zo (ZdFo rfl rfl) rfl<|Zomo rfl rfl<|X.forkO 67 rfl (fun h67 => ?_) (fun h67 => ?_)
      ·
       refine Zp rfl rfl rfl<|Zp rfl rfl rfl<|Zp rfl rfl rfl<|Zp rfl rfl rfl<|Zp rfl rfl rfl<|Zp rfl rfl rfl<|Zp rfl rfl rfl<|Zo (ZdTt rfl rfl) rfl<|Ze<|Zt rfl<|Zs<|Zr<|Zoa rfl rfl<|Zoa rfl rfl<|Ze<|X.ret2 (v2 := (.bool _)) Zf66 Zr66 rfl rfl ?_
       have hN9 : pgP xs t = none := by rw [hE, hfin]; exact pgF_F (fun h => by rw [h.2.1] at h67; cases h67)
       rw [hN9]
       exact ⟨rfl, (hk.trans hk8)⟩
      ·have hRt : isR l = true := by
         cases hq : isR l with
         | true => rfl
         | false => rw [hq] at h67; exact absurd h67 (by decide)
       refine Zg (X.move rfl) rfl rfl rfl rfl<|Zg (X.idxS (hsv.keep hk8) Zu22 Zs40 rfl rfl ⟨by omega, by omega⟩) rfl rfl rfl rfl<|Zg (X.fldA Tryz.underlying40 rfl rfl Zs38) rfl rfl rfl rfl<|Zg (X.loadSf (o := 0) Zi38 (hsv.keep hk8) (j := 0) hx0' rfl (fun _ h => by rw [h.1]; rfl)) rfl rfl rfl rfl ?_
       refine Zg (X.move rfl) rfl rfl rfl rfl<|X.opE (X.wG rfl rfl rfl) rfl (X.callE (R02Compare_c _ (hqs.keep hk8) (ht.keep (hk.trans hk8))) Tryz.call17 rfl rfl) ?_
       rintro _ w9 ⟨rfl, hk9⟩
       have hk9' := hk9.size
       refine X.opP (X.wG rfl rfl rfl) rfl rfl (X.neI rfl rfl) (fun h74 => ?_) (fun h74 => ?_)
       ·
        refine Zo (ZdFt rfl rfl) rfl<|Ze<|Zt rfl<|Zs<|Zr<|Zoa rfl rfl<|Zoa rfl rfl<|Ze<|X.ret2 (v2 := (.bool _)) Zf66 Zr66 rfl rfl ?_
        have hN9 : pgP xs t = none := by rw [hE, hfin]; exact pgF_F (fun h => h74 (by rw [← hhq]; exact h.2.2))
        rw [hN9]
        exact ⟨rfl, ((hk.trans hk8).trans hk9)⟩
       ·refine Zo (ZdFf rfl rfl) rfl<|Ze<|Zf rfl<|Zk<|Zs<|Zr<|Zom rfl rfl<|Zoa rfl rfl<|Zoa rfl rfl<|Ze<|X.ret2 (v2 := (.bool _)) Zf66 Zr66 rfl rfl ?_
        have hcm : cmpT (headT l) t = 0 := by rw [hhq]; exact Classical.byContradiction h74
        rw [hE, hfin, pgF_T hne hRt hcm]
        have hNf := (hNR.keep (hk8.trans hk9))
        exact ⟨⟨_, L, _, S, G, rfl, hNf.low Zz⟩, ((hk.trans hk8).trans hk9)⟩
theorem ba_inj {a b : List UInt8} (h : (⟨a.toArray⟩ : ByteArray) = ⟨b.toArray⟩) : a = b := by
  injection h with h
  simpa using h
theorem RRI_e {lo hi : Nat} {A : Option Addr} {n c : Nat} {xs : List UInt8} (w : World) (hs : Sl KB lo hi w A n xs) (hhi : hi ≤ w.heap.size) (hnc : n ≤ c) (hn : n ≤ 1000000) : Ret Tryz.prog 29 #[.slice A n c] w fun r w' => ∃ (a1 : Option Addr) (a2 a3 : Nat) (a4 : Int) (a5 : Bool), r = .tuple #[.agg #[.slice a1 a2 a3, .int .i64 a4], .bool a5] ∧ (a5 = false → idxP xs = none) ∧ (a5 = true → ∃ z, idxP xs = some z ∧ a2 = z.1.length ∧ z.1.length ≤ a3 ∧ a4 = (z.2 : Int) ∧ LfS w.heap.size w'.heap.size w' a1 z.1.length z.1) ∧ Keep w w' := by
  refine (RRI_c w hs hhi hnc hn).mono ?_
  rintro r w' ⟨h, hk⟩
  revert h
  cases idxP xs with
  | none => rintro ⟨a1, a2, a3, k, rfl⟩; exact ⟨_, _, _, _, _, rfl, fun _ => rfl, fun h => by (cases h), hk⟩
  | some z => rintro ⟨A', c', rfl, hc, hL⟩; exact ⟨_, _, _, _, _, rfl, fun h => by (cases h), fun _ => ⟨z, rfl, rfl, hc, rfl, hL⟩, hk⟩
theorem Rpage_e {lo hi lo1 hi1 : Nat} {A A1 : Option Addr} {n c n1 c1 : Nat} {xs : List UInt8} {t : List VAL} (w : World) (hs : Sl KB lo hi w A n xs) (hhi : hi ≤ w.heap.size) (hnc : n ≤ c) (hn : n ≤ 1000000) (ht : Sl KV lo1 hi1 w A1 n1 t) (hh1 : hi1 ≤ w.heap.size) : Ret Tryz.prog 66 #[.slice A n c, .slice A1 n1 c1] w fun r w' => ∃ (b1 : Option Addr) (bn bc : Nat) (b2 : Bool), r = .tuple #[.slice b1 bn bc, .bool b2] ∧ (b2 = false → pgP xs t = none) ∧ (b2 = true → ∃ p L m S G, pgP xs t = some p ∧ NRow NdCt 40 w.heap.size m S G w' (.slice b1 bn bc) L p) ∧ Keep w w' := by
  refine (Rpage_c w hs hhi hnc hn ht hh1).mono ?_
  rintro r w' ⟨h, hk⟩
  revert h
  cases pgP xs t with
  | none => rintro rfl; exact ⟨_, _, _, _, rfl, fun _ => rfl, fun h => by (cases h), hk⟩
  | some p =>
    rintro ⟨v, L, m, S, G, rfl, hN⟩
    obtain ⟨A, c, rfl, _⟩ := nrow_cts hN
    exact ⟨_, _, _, _, rfl, fun h => by (cases h), fun _ => ⟨p, L, m, S, G, rfl, hN⟩, hk⟩
theorem RParse_c {lo hi : Nat} {A : Option Addr} {n c : Nat} {xs : List UInt8} (w : World) (hs : Sl KB lo hi w A n xs) (hhi : hi ≤ w.heap.size) (hnc : n ≤ c) (hn : n ≤ 1000000) (hFit : ∀ z out, idxP xs = some z → catP xs z.1 = some out → Fit out) : Ret Tryz.prog 28 #[.slice A n c] w fun r w' => (match parP xs with
    | some l => ∃ v L m S G, r = .tuple #[v, .int .i64 0] ∧ NRow NdCt 40 w.heap.size m S G w' v L l
    | none => r = .tuple #[.slice none 0 0, .int .i64 71]) ∧ Keep w w' := by
 have hsl := hs.len
 refine X.enter Zf28 rfl Tryz.ntmps28 rfl<|Zs<|Zr<|Zoa rfl rfl<|Zoa rfl rfl<|Ze<|Zs<|Zr<|Zoms rfl rfl<|Zc (X.callE (RRI_e _ hs Zz Zz Zz) Tryz.call29 rfl rfl) rfl ?_
 rintro _ w1 ⟨a1, a2, a3, a4, a5, rfl, hIE, hIZ, hk1⟩
 have hk1' := hk1.size
 refine Zom rfl rfl<|Zo (X.extr rfl rfl) rfl<|Zo (X.extr rfl rfl) rfl<|Zc (X.allocE Zv71 rfl) rfl ?_
 rintro _ w2 ⟨rfl, hB2, hk2, hz2⟩
 refine Zc (X.storeNE Zs71 hB2 rfl rfl rfl rfl (fun u hu => by simp at hu; rcases hu with rfl | rfl <;> rfl)) rfl ?_
 rintro _ w3 ⟨hB3, hx3, hz3⟩
 refine Zoao rfl rfl<|Ze<|Zs<|Zs<|Zr<|Zomo rfl rfl<|Zo (X.not_ rfl) rfl<|Ze<|X.condB rfl (fun hc18 => ?_) (fun hc18 => ?_)
 ·-- ZT18
  refine Zs<|Zr<|Zoa rfl rfl<|Zoa rfl rfl<|Ze<|X.ret2 (v2 := (.int .i64 _)) Zf28 Zr28 rfl rfl ?_
  refine ⟨?_, ((hk1.trans hk2).step hx3 zq20)⟩
  rw [parP_a (hIE (by cases a5 <;> first | rfl | exact absurd hc18 (by decide)))]
  exact rfl
 ·have ha5 : a5 = true := by cases a5 <;> first | rfl | exact absurd hc18 (by decide)
  obtain ⟨z, hz, rfl, hlc, rfl, LI, hsL, hLA⟩ := hIZ ha5
  obtain ⟨hzq1, hzq2⟩ := idxP_sum hz
  have hLb := hsL.bound
  have hLl := hsL.len
  refine Zk<|Zs<|Zr<|Zoa rfl rfl<|Ze<|Zs<|Zs<|Zr<|Zoa rfl rfl<|Ze<|Zb ?_
  have hKI := ((hk1.trans hk2).step hx3 zq20)
  obtain ⟨wI, hwI⟩ : ∃ wI, wI = w3 := ⟨_, rfl⟩
  have hsLI := ((hsL.keep hk2).ext hx3 (by intro q g1 g2 g3; have g3 : q = _ := g3; omega))
  have hLAI := ((hLA.keep hk2).ext hx3 (by intro q g1 g3; have g1 : _ ≤ q ∧ _ := g1; have g3 : q = _ := g3; omega))
  have hB4I := hB3
  rw [← hwI] at hKI hsLI hLAI hB4I
  have hLI := hKI.size
  have hB4l := hB4I.lt
  have hwn : w1.heap.size ≤ wI.heap.size := by rw [hwI]; omega
  clear hIE hIZ
  refine X.loopL (σ := Nat × Value) (fun s => [(0, .slice A n c), (4, .pointer (some ⟨w1.heap.size, 0, none⟩)), (6, s.2), (7, .int .i64 (s.1 : Int))]) (fun s w' => s.1 ≤ z.1.length ∧ Keep w w' ∧ Ext (fun k => wI.heap.size ≤ k) wI w' ∧ ∃ L S G out, NRow NdCt 40 wI.heap.size w'.heap.size S G w' s.2 L out ∧ out.length + ((z.1.drop s.1).map fun q => q.2.1).sum ≤ xs.length ∧ catP xs z.1 = (catP xs (z.1.drop s.1)).map (out ++ ·)) (fun s => z.1.length - s.1) (0, .slice none 0 0) ⟨rfl, rfl, rfl, rfl, trivial⟩ ⟨Nat.zero_le _, ((hk1.trans hk2).step hx3 zq20), by rw [hwI]; exact Ext.refl _ _, [], _, _, [], by rw [hwI]; exact NRow.nil _ _ _ _ (Nat.le_refl _), by (try dsimp only); rw [List.drop_zero]; simp; omega, by (try dsimp only); rw [List.drop_zero]; cases catP xs z.1 <;> rfl⟩ ?_
  rintro ⟨i, v⟩ b w1 ⟨hi0, hk, hxI, L, S, G, out, hNR, hsum, hcat⟩ hback
  dsimp only at hi0 hNR hsum hcat
  have hk0 := hk.size
  have hxI0 := hxI.size
  have hsL1 := hsLI.ext hxI (fun q g1 g2 g3 => by have g3 : _ ≤ q := g3; omega)
  have hLA1 := hLAI.ext hxI (fun q g1 g3 => by have g1 : _ ≤ q ∧ _ := g1; have g3 : _ ≤ q := g3; omega)
  have hB41 := hB4I.ext hxI (by intro hh; have hh : _ ≤ _ := hh; omega)
  refine Zs<|Zs<|Zr<|Zomi rfl rfl<|Zo (X.fldB (j := 0) Zu71 rfl rfl Zs69 rfl) rfl<|Zo (X.load1B Zi69 hB41 rfl rfl) rfl<|Zo (X.lenSl Zu69 rfl) rfl<|X.opP X.wN rfl rfl (X.lss rfl rfl) (fun h23 => ?_) (fun h23 => ?_)
  ·obtain ⟨x, hx⟩ : ∃ x, LI[i]? = some x := ⟨_, List.getElem?_eq_getElem Zz⟩
   obtain ⟨q, hq, e1, e2, hxc, loq, hiq, hTq, hts⟩ := hLA1.2 _ _ hx
   obtain ⟨xa, xb, xh⟩ := x
   dsimp only at e1 e2 hxc hts
   subst e1 e2
   have hqb := hzq1 q (List.mem_of_getElem? hq)
   have hdq : z.1.drop i = q :: z.1.drop (i + 1) := by
     obtain ⟨h, e⟩ := List.getElem?_eq_some_iff.1 hq
     rw [List.drop_eq_getElem_cons h, e]
   rw [hdq, List.map_cons, List.sum_cons] at hsum
   rw [hdq] at hcat
   have hiq9 : hiq ≤ w1.heap.size ∨ hiq ≤ loq := by
     by_cases g : loq < hiq
     ·have := hTq (hiq - 1) Zz Zz; have this : _ ≤ _ ∧ _ := this; left; omega
     ·right; omega
   have htq : Sl KV 0 w1.heap.size w1 xh.1 xh.2.1 q.2.2 := kv_tight' hts hiq9
   refine Ze<|Zt rfl<|Zk<|Zs<|Zb<|Zs<|X.regionD (fun _ => False) 32 Zl Zl (fun w4 hk4 hz4 => ?_)
   refine ZDc 0 rfl Zl (Zdms rfl)<|ZDc 1 rfl Zl (X.fldB (j := 0) Zu71 rfl rfl Zs69 rfl)<|ZD 2 rfl Zl (fun w' hk' => X.load1B Zi69 (hB41.keep (hk4.trans hk')) rfl rfl)<|ZDc 3 rfl Zl (Zdmi rfl)<|ZD 4 rfl Zl (fun w' hk' => X.idxS (hsL1.keep (hk4.trans hk')) Zu69 Zs76 rfl rfl ⟨by omega, by omega⟩)<|ZDc 5 rfl Zl (X.fldA Zu76 rfl rfl Zs3)<|ZD 6 rfl Zl (fun w' hk' => X.loadSf (o := 0) Zi3 (hsL1.keep (hk4.trans hk')) hx rfl (fun _ h => by rw [h.1]; rfl)) ?_
   refine ZDc 7 rfl Zl (X.fldB (j := 0) Zu71 rfl rfl Zs69 rfl)<|ZD 8 rfl Zl (fun w' hk' => X.load1B Zi69 (hB41.keep (hk4.trans hk')) rfl rfl)<|ZDc 9 rfl Zl (Zdmi rfl)<|ZD 10 rfl Zl (fun w' hk' => X.idxS (hsL1.keep (hk4.trans hk')) Zu69 Zs76 rfl rfl ⟨by omega, by omega⟩)<|ZDc 11 rfl Zl (X.fldA Zu76 rfl rfl Zs3)<|ZD 12 rfl Zl (fun w' hk' => X.loadSf (o := 0) Zi3 (hsL1.keep (hk4.trans hk')) hx rfl (fun _ h => by rw [h.1]; rfl)) ?_
   refine ZDc 13 rfl Zl (X.fldB (j := 0) Zu71 rfl rfl Zs69 rfl)<|ZD 14 rfl Zl (fun w' hk' => X.load1B Zi69 (hB41.keep (hk4.trans hk')) rfl rfl)<|ZDc 15 rfl Zl (Zdmi rfl)<|ZD 16 rfl Zl (fun w' hk' => X.idxS (hsL1.keep (hk4.trans hk')) Zu69 Zs76 rfl rfl ⟨by omega, by omega⟩)<|ZDc 17 rfl Zl (X.fldA Zu76 rfl rfl Zs3)<|ZD 18 rfl Zl (fun w' hk' => X.loadSf (o := 1) Zi3 (hsL1.keep (hk4.trans hk')) hx rfl (fun _ h => by rw [h.1]; rfl)) ?_
   refine ZDc 19 rfl Zl (X.add (c := ((q.1 + q.2.1 : Nat) : Int)) rfl rfl (by dsimp only; rw [X.w_i64 Zz]; omega)) ?_
   refine ZDc 20 rfl Zl (X.cutLH Zu43 Zs5 rfl rfl rfl Zz)<|ZDc 21 rfl Zl (X.fldB (j := 0) Zu71 rfl rfl Zs69 rfl)<|ZD 22 rfl Zl (fun w' hk' => X.load1B Zi69 (hB41.keep (hk4.trans hk')) rfl rfl)<|ZDc 23 rfl Zl (Zdmi rfl)<|ZD 24 rfl Zl (fun w' hk' => X.idxS (hsL1.keep (hk4.trans hk')) Zu69 Zs76 rfl rfl ⟨by omega, by omega⟩)<|ZDc 25 rfl Zl (X.fldA Zu76 rfl rfl Zs38)<|ZD 26 rfl Zl (fun w' hk' => X.loadSf (o := 2) Zi38 (hsL1.keep (hk4.trans hk')) hx rfl (fun _ h => by rw [h.1]; rfl)) ?_
   refine X.dE (i := 27) Zl rfl (X.dwN rfl) (X.callE (Rpage_e _ (((hs.take (q.1 + q.2.1) Zz).drop q.1 c Zz Zz).keep (hk.trans hk4)) Zz Zz Zz (htq.keep hk4) Zz) Tryz.call66 rfl rfl) (by rintro _ w5 ⟨b1, bn, bc, b2, rfl, hPE, hPZ, hk5⟩ _; exact hk5.mono (fun _ _ h => h.elim)) ?_
   rintro _ w5 ⟨b1, bn, bc, b2, rfl, hPE, hPZ, hk5⟩
   have hk5' := hk5.size
   refine ZDc 28 rfl Zl (X.move rfl)<|ZDc 29 rfl Zl (X.extr rfl rfl)<|ZDc 30 rfl Zl (X.extr rfl rfl)<|ZDc 31 rfl Zl (X.assign rfl)<|X.dStep (i := 32) Zl rfl (X.dwN rfl) (X.assign (v := .bool _) rfl) (fun h => absurd h (by decide))<|Zdend Zl<|Zs<|Zs<|Zr<|Zomo rfl rfl<|Zo (X.not_ rfl) rfl<|Ze<|X.condB rfl (fun hc58 => ?_) (fun hc58 => ?_)
   ·-- ZT58
    have hpN := hPE (by cases b2 <;> first | rfl | exact absurd hc58 (by decide))
    refine Zs<|Zr<|Zoa rfl rfl<|Zoa rfl rfl<|Ze<|X.ret2 (v2 := (.int .i64 _)) Zf28 Zr28 rfl rfl ?_
    refine ⟨?_, ((hk.trans hk4).trans hk5)⟩
    rw [parP_b hz (by rw [hcat, catP_n hpN]; rfl)]
    exact rfl
   ·obtain ⟨p, LP, mP, SP, GP, hp, hNP⟩ := hPZ (by cases b2 <;> first | rfl | exact absurd hc58 (by decide))
    obtain ⟨Ap, cp, eP, hcp, hsP, hPA⟩ := nrow_cts hNP
    injection eP with eP1 eP2 eP3
    subst eP1 eP2 eP3
    clear hPE hPZ
    obtain ⟨hf1, hf2, hf3⟩ := pgP_fit hp
    have hf4 := count_le hf3
    rw [List.length_drop, List.length_take] at hf2
    refine Zk<|Zr<|Zom rfl rfl<|Zom rfl rfl<|Zc (NRow.apps (hNR.keep (hk4.trans hk5)) (hsP) (hPA) Zz Zz Zz Zu22 ECt rfl rfl Zz) rfl ?_
    rintro _ w6 ⟨Aq, cq, S', G', rfl, hNn, hx6⟩
    have hx6' := hx6.size
    refine Zoa rfl rfl<|Ze<|Zi<|Zr<|Zomi rfl rfl<|Zo (X.add rfl rfl (X.w_i64 Zz)) rfl<|Zoai rfl rfl<|Ze ?_
    refine hback (i + 1, _) _ _ ⟨rfl, rfl, rfl, rfl, trivial⟩ ⟨by omega, (((hk.trans hk4).trans hk5).step hx6 zq20), (Ext.andThen (Ext.andThen (Ext.andThen hxI hk4 zq13) hk5 zq13) hx6 zq13), _, _, _, out ++ p, (hNn).all, by (try dsimp only); rw [List.length_append]; omega, by (try dsimp only); rw [hcat, catP_s hp, Option.map_map]; cases catP xs (z.1.drop (i + 1)) <;> simp⟩ (by (try dsimp only); omega)
  ·have hin : i = z.1.length := by omega
   subst hin
   rw [List.drop_length] at hcat
   have hcat : catP xs z.1 = some out := by rw [hcat, catP]; simp
   have hF := hFit z out hz hcat
   obtain ⟨Av, cv, rfl, hcv, hkc⟩ := nrow_kc hNR
   refine Ze<|Zf rfl<|Zx rfl<|Zs<|Zr<|Zom rfl rfl<|Zc (X.callE (RBytes_F _ hkc Zz hcv hF) Tryz.call19 rfl rfl) rfl ?_
   rintro _ w7 ⟨v7, rfl, hM7, hk7⟩
   have hk7' := hk7.size
   refine Zom rfl rfl<|Zo (X.extr rfl rfl) rfl<|Zo (X.extr rfl rfl) rfl<|Zoa rfl rfl<|Zoai rfl rfl<|Ze<|Zs<|Zs<|Zr<|Zomi rfl rfl<|X.opP X.wN rfl rfl (X.neI rfl rfl) (fun h68 => ?_) (fun h68 => ?_)
   ·have hrF : ¬ isR out = true := fun e => by rw [if_pos e] at h68; exact h68 rfl
    refine Zomt rfl rfl<|Zp rfl rfl rfl<|Zp rfl rfl rfl<|Zp rfl rfl rfl<|Zp rfl rfl rfl<|Zp rfl rfl rfl<|Zo (ZdTt rfl rfl) rfl<|Ze<|Zt rfl<|Zs<|Zr<|Zoa rfl rfl<|Zoa rfl rfl<|Ze<|X.ret2 (v2 := (.int .i64 _)) Zf28 Zr28 rfl rfl ?_
    refine ⟨?_, (hk.trans hk7)⟩
    rw [parP_c hz hcat (fun e => hrF e.1)]
    exact rfl
   ·have hrT : isR out = true := by
      cases hq : isR out with
      | true => rfl
      | false => rw [hq] at h68; exact absurd (Classical.byContradiction h68) (by decide)
    have hRl : (if isR out = true then runB out else []) = runB out := if_pos hrT
    have hRs := (hF.sizes hrT).2.2.2
    refine Zomf rfl rfl<|Zg (X.move rfl) rfl rfl rfl rfl ?_
    have q8 := hM7.slF KB_flat 0 (fun _ _ => Nat.zero_le _)
    obtain ⟨A8, c8, rfl, hc8, hs8⟩ := q8
    refine Zg (X.str Zu43 Zu5 Zu9 rfl KB_is rfl hs8) rfl rfl rfl rfl<|Zg (Zdms rfl) rfl rfl rfl rfl<|Zg (X.str Zu43 Zu5 Zu9 rfl KB_is rfl (hs.keep (hk.trans hk7))) rfl rfl rfl rfl<|X.opP (X.wG rfl rfl rfl) rfl rfl (X.neD rfl rfl) (fun h74 => ?_) (fun h74 => ?_)
    ·
     refine Zo (ZdFt rfl rfl) rfl<|Ze<|Zt rfl<|Zs<|Zr<|Zoa rfl rfl<|Zoa rfl rfl<|Ze<|X.ret2 (v2 := (.int .i64 _)) Zf28 Zr28 rfl rfl ?_
     refine ⟨?_, (hk.trans hk7)⟩
     rw [parP_c hz hcat (fun e => h74 (by rw [hRl, e.2]))]
     exact rfl
    ·refine Zo (ZdFf rfl rfl) rfl<|Ze<|Zf rfl<|Zk<|Zs<|Zr<|Zom rfl rfl<|Zoa rfl rfl<|Zoa rfl rfl<|Ze<|X.ret2 (v2 := (.int .i64 _)) Zf28 Zr28 rfl rfl ?_
     refine ⟨?_, (hk.trans hk7)⟩
     rw [parP_d hz hcat ⟨hrT, by have h0 := ba_inj (Classical.byContradiction h74); rw [hRl] at h0; exact h0⟩]
     exact ⟨_, _, _, _, _, rfl, ((hNR.keep hk7)).low Zz⟩
def parO (xs : List UInt8) : List CD := (parP xs).getD []
def parE (xs : List UInt8) : Int := match parP xs with | none => 71 | some _ => 0
theorem Parse_o {lo hi : Nat} {A : Option Addr} {n c : Nat} {xs : List UInt8} (w : World) (hs : Sl KB lo hi w A n xs) (hhi : hi ≤ w.heap.size) (hnc : n ≤ c) (hn : n ≤ 4000) (hTb : TabOk w) : Ret Tryz.prog 27 #[.slice A n c] w fun r w' => ∃ A' c', r = .tuple #[.slice A' (parO xs).length c', .int .i64 (parE xs)] ∧ Sl KC w.heap.size w'.heap.size w' A' (parO xs).length (parO xs) ∧ Keep w w' := by
  refine (Parse_c w hs hhi hnc Zz hTb (fun z out h1 h2 => cat_fit h1 h2 (by rw [hs.len]; exact hn))).mono ?_
  rintro r w' ⟨h, hk⟩
  revert h
  rw [parO, parE]
  cases parP xs with
  | none => rintro rfl; exact ⟨_, _, rfl, Sl.nil _ _ _ _ _, hk⟩
  | some p =>
    rintro ⟨v, L, m, S, G, rfl, hN⟩
    obtain ⟨A', c', rfl, hc, hs'⟩ := nrow_kc hN
    exact ⟨_, _, rfl, hs', hk⟩
theorem RParse_o {lo hi : Nat} {A : Option Addr} {n c : Nat} {xs : List UInt8} (w : World) (hs : Sl KB lo hi w A n xs) (hhi : hi ≤ w.heap.size) (hnc : n ≤ c) (hn : n ≤ 4000) : Ret Tryz.prog 28 #[.slice A n c] w fun r w' => ∃ A' c', r = .tuple #[.slice A' (parO xs).length c', .int .i64 (parE xs)] ∧ Sl KC w.heap.size w'.heap.size w' A' (parO xs).length (parO xs) ∧ Keep w w' := by
  refine (RParse_c w hs hhi hnc Zz (fun z out h1 h2 => cat_fit h1 h2 (by rw [hs.len]; exact hn))).mono ?_
  rintro r w' ⟨h, hk⟩
  revert h
  rw [parO, parE]
  cases parP xs with
  | none => rintro rfl; exact ⟨_, _, rfl, Sl.nil _ _ _ _ _, hk⟩
  | some p =>
    rintro ⟨v, L, m, S, G, rfl, hN⟩
    obtain ⟨A', c', rfl, hc, hs'⟩ := nrow_kc hN
    exact ⟨_, _, rfl, hs', hk⟩
theorem RunReads_c (w : World) (hTb : TabOk w) (A : Option Addr) (n c : Nat) (l : List UInt8) (hnc : n ≤ c) (hs : Sl KB 0 w.heap.size w A n l) : Ret Tryz.prog 6 #[.slice A n c] w fun r w' => r = .bool true ∧ Keep w w' := by
 have hsl := hs.len
 have hsb := hs.bound
 have htl := hTb.lt
 refine X.enter Zf6 rfl Tryz.ntmps6 rfl<|Zs<|Zr<|Zoa rfl rfl<|Ze<|Zs<|Zs<|Zr<|Zoms rfl rfl<|Zo (X.lenSl Zu43 rfl) rfl<|X.opP X.wN rfl rfl (X.gtr rfl rfl) (fun h9 => ?_) (fun h9 => ?_)
 ·refine Ze<|Zt rfl<|Zr<|Zoms rfl rfl<|Zo (X.cutHr Zu43 Zs5 rfl rfl Zz) rfl<|Zoas rfl rfl<|Ze<|Zs<|Zr<|Zoms rfl rfl<|Zc (X.callE (Parse_o _ (hs.take 4000 Zz) Zz Zz Zz (hTb.keep (Keep.refl _))) Tryz.call27 rfl rfl) rfl ?_
  rintro _ w1 ⟨A1, c1', rfl, hs1, hk1⟩
  have hk1' := hk1.size
  refine Zom rfl rfl<|Zo (X.extr rfl rfl) rfl<|Zo (X.extr rfl rfl) rfl<|Zoas rfl rfl<|Zoai rfl rfl<|Ze<|Zs<|Zr<|Zoms rfl rfl<|Zc (X.callE (RParse_o _ ((hs.take 4000 Zz).keep hk1) Zz Zz Zz) Tryz.call28 rfl rfl) rfl ?_
  rintro _ w2 ⟨A2, c2', rfl, hs2, hk2⟩
  have hk2' := hk2.size
  refine Zom rfl rfl<|Zo (X.extr rfl rfl) rfl<|Zo (X.extr rfl rfl) rfl<|Zoas rfl rfl<|Zoai rfl rfl<|Ze<|Zs<|Zr<|Zoms rfl rfl<|Zoms rfl rfl<|Zc (X.callE (RSame_c _ (hs1.keep hk2) hs2) Tryz.call23 rfl rfl) rfl ?_
  rintro _ w3 ⟨rfl, hk3⟩
  have hk3' := hk3.size
  refine Zomo rfl rfl<|X.forkO 25 rfl (fun h25 => ?_) (fun h25 => ?_)
  ·refine Zg (Zdmi rfl) rfl rfl rfl rfl<|Zg (Zdmi rfl) rfl rfl rfl rfl<|X.opP (X.wG rfl rfl rfl) rfl rfl (X.eqI rfl rfl) (fun h28 => ?_) (fun h28 => ?_)
   ·refine Zo (ZdTt rfl rfl) rfl<|Zomt rfl rfl<|X.opE (X.wG rfl rfl rfl) rfl (X.callE (ralive_c _ (hTb.keep ((hk1.trans hk2).trans hk3))) Tryz.call11 rfl rfl) ?_
    rintro _ w4 ⟨rfl, hk4⟩
    have hk4' := hk4.size
    refine Zo (ZdTo rfl rfl) rfl<|Zoao rfl rfl<|Ze<|X.ret1 (v := (.bool _)) Zf6 Tryz.results6 rfl ?_
    exact ⟨rfl, (((hk1.trans hk2).trans hk3).trans hk4)⟩
   ·exact absurd rfl h28
  ·exact absurd h25 (by simp)
 ·refine Ze<|Zf rfl<|Zk<|Zs<|Zr<|Zoms rfl rfl<|Zc (X.callE (Parse_o _ hs Zz Zz Zz (hTb.keep (Keep.refl _))) Tryz.call27 rfl rfl) rfl ?_
  rintro _ w5 ⟨A1, c1', rfl, hs1, hk5⟩
  have hk5' := hk5.size
  refine Zom rfl rfl<|Zo (X.extr rfl rfl) rfl<|Zo (X.extr rfl rfl) rfl<|Zoas rfl rfl<|Zoai rfl rfl<|Ze<|Zs<|Zr<|Zoms rfl rfl<|Zc (X.callE (RParse_o _ (hs.keep hk5) Zz Zz Zz) Tryz.call28 rfl rfl) rfl ?_
  rintro _ w6 ⟨A2, c2', rfl, hs2, hk6⟩
  have hk6' := hk6.size
  refine Zom rfl rfl<|Zo (X.extr rfl rfl) rfl<|Zo (X.extr rfl rfl) rfl<|Zoas rfl rfl<|Zoai rfl rfl<|Ze<|Zs<|Zr<|Zoms rfl rfl<|Zoms rfl rfl<|Zc (X.callE (RSame_c _ (hs1.keep hk6) hs2) Tryz.call23 rfl rfl) rfl ?_
  rintro _ w7 ⟨rfl, hk7⟩
  have hk7' := hk7.size
  refine Zomo rfl rfl<|X.forkO 25 rfl (fun h25 => ?_) (fun h25 => ?_)
  ·refine Zg (Zdmi rfl) rfl rfl rfl rfl<|Zg (Zdmi rfl) rfl rfl rfl rfl<|X.opP (X.wG rfl rfl rfl) rfl rfl (X.eqI rfl rfl) (fun h28 => ?_) (fun h28 => ?_)
   ·refine Zo (ZdTt rfl rfl) rfl<|Zomt rfl rfl<|X.opE (X.wG rfl rfl rfl) rfl (X.callE (ralive_c _ (hTb.keep ((hk5.trans hk6).trans hk7))) Tryz.call11 rfl rfl) ?_
    rintro _ w8 ⟨rfl, hk8⟩
    have hk8' := hk8.size
    refine Zo (ZdTo rfl rfl) rfl<|Zoao rfl rfl<|Ze<|X.ret1 (v := (.bool _)) Zf6 Tryz.results6 rfl ?_
    exact ⟨rfl, (((hk5.trans hk6).trans hk7).trans hk8)⟩
   ·exact absurd rfl h28
  ·exact absurd h25 (by simp)
end Go.Proofs.YtbljooblpfdbiaaGreatDoor
