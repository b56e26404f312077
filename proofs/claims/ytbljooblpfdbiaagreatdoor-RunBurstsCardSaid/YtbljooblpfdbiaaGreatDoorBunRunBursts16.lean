/- Texts that the proof of RunBursts stands on, part 16. -/
import Derived.Test.YtbljooblpfdbiaaGreatDoorRows
import Derived.LaidMore
import Derived.ProofKit
import Derived.OpenShut
import Derived.Stop.Joined
import Derived.KernelRfl
import Derived.Test.YtbljooblpfdbiaaGreatDoorProg
import Derived.Test.YtbljooblpfdbiaaGreatDoorBunRunBursts15
set_option maxHeartbeats 4000000
set_option maxRecDepth 100000
open Go.Proofs.Tryz renaming call11 → Zc11, call112 → Zc112, func112 → Zf112, func115 → Zf115, func29 → Zf29, func68 → Zf68, func7 → Zf7, isAgg3 → Zi3, isAgg5 → Zi5, isAgg69 → Zi69, isAgg71 → Zi71, results112 → Zr112, results115 → Zr115, results29 → Zr29, results68 → Zr68, results7 → Zr7, sizeOf3 → Zs3, sizeOf5 → Zs5, sizeOf69 → Zs69, sizeOf71 → Zs71, sizeOf76 → Zs76, underlying119 → Zu119, underlying3 → Zu3, underlying43 → Zu43, underlying5 → Zu5, underlying69 → Zu69, underlying71 → Zu71, underlying74 → Zu74, underlying76 → Zu76, underlying77 → Zu77, zeroValue3 → Zv3, zeroValue71 → Zv71
set_option linter.unusedSimpArgs false
set_option linter.unusedVariables false
namespace Go.Proofs.YtbljooblpfdbiaaGreatDoor
open Go Go.Proofs.YtbljooblpfdbiaaGreatDoor.X Go.ChangeShapes Go.WideShapes Go.ChangeAt Go.RowKit
def laidT : List (String × DataW Unit) := [("pedigree/crc.table", Rows.laid_pedigree_crc_table)]
theorem gTab : Tryz.prog.globalNamed "pedigree/crc.table" = some 0 := by kernel_rfl
theorem tTab : (Tryz.prog.globals[0]?).map (·.type) = some 244 := by kernel_rfl
theorem c32 : Tryz.prog.cellsOf 68 = 1 := by kernel_rfl
theorem tab_list : Rows.laid_pedigree_crc_table = (DataW.agg (tabL.map fun (n : Nat) => .lit (.int .u32 (n : Int))) : DataW Unit) := rfl
theorem tab_at : ∀ i : Fin 16, tabL[i.1]? = some (tabV i.1).toNat := by decide
theorem door_met (os : Os) (args : Array Value) : laidMetH Tryz.prog laidT ((World.doorLaid Tryz.prog 400 os).forCall (fun _ _ => 0) ⟨#[], args, []⟩).memory :=
  laidMetH_of_parts3 (fuel := 8) (laidMet_of_run' 8 Zl Zl) Zl Zl
theorem tabOk_of_laid {W : World} (h : laidMetH Tryz.prog laidT W) : TabOk W := by
  rw [MakeChecks.laidMetH_plain _ _ _ Zl] at h
  obtain ⟨ps, ⟨g0, t0, cs0, f0, p0, q0, hg0, ht0, hv0, hd0, _, _⟩, _, _⟩ := h
  obtain rfl := Option.some.inj (gTab.symm.trans hg0)
  obtain rfl := Option.some.inj (tTab.symm.trans ht0)
  obtain ⟨xs, m1, rfl, hx1, hlen, hn, hel⟩ := DataW.trod_array Tryz.underlying244 hd0
  intro i hi
  rw [tab_list] at hx1
  simp only [Prod.mk.injEq, DataW.agg.injEq] at hx1
  obtain ⟨x, hx⟩ : ∃ x, xs[i]? = some x := ⟨xs[i]'Zz, List.getElem?_eq_getElem Zz⟩
  have h1 := hel i hi
  rw [hx, c32] at h1
  obtain ⟨k, e1, e2, _⟩ := DataW.trod_int Tryz.underlying68 h1
  have h2 : (xs.map (·.1))[i]? = some x.1 := by rw [List.getElem?_map, hx]; rfl
  rw [← hx1.1, List.getElem?_map, tab_at ⟨i, hi⟩, e2] at h2
  have hk : k = ((tabV i).toNat : Int) := by
    simp at h2
    exact h2.symm
  subst hk
  have h3 : (cs0.toList.drop (i * 1)).take 1 = [Value.int .u32 ((tabV i).toNat : Int)] := e1
  have h4 : cs0.toList[i]? = some (Value.int .u32 ((tabV i).toNat : Int)) := by
    have := congrArg (fun l => l[0]?) h3
    rw [Nat.mul_one] at this
    simpa [List.getElem?_take, List.getElem?_drop] using this
  rw [World.var?_cell hg0 hv0 i]
  simpa using h4
end Go.Proofs.YtbljooblpfdbiaaGreatDoor
namespace Go.Proofs.YtbljooblpfdbiaaGreatDoor
open Go Go.Proofs.YtbljooblpfdbiaaGreatDoor.X
theorem mul_n (a b : Nat) (h : a * b < 18446744073709551616) : IntKind.u64.wrap (((a : Nat) : Int) * ((b : Nat) : Int)) = ((a * b : Nat) : Int) := by
  rw [← Int.natCast_mul]; exact w_u64 Zz
theorem add_n (a b : Nat) (h : a + b < 18446744073709551616) : IntKind.u64.wrap (((a : Nat) : Int) + ((b : Nat) : Int)) = ((a + b : Nat) : Int) := by
  rw [← Int.natCast_add]; exact w_u64 Zz
theorem RTakeNum_c {lo hi : Nat} {A : Option Addr} {n c : Nat} {l : List UInt8} (w : World) (hs : Sl KB lo hi w A n l) (hnc : n ≤ c) (hn : n ≤ 1000000) : Ret Tryz.prog 112 #[.slice A n c] w fun r w' => r = .tuple #[.int .u64 ((told (pNum 0 0 l) 0 : Nat) : Int), .int .i64 (cnt (pNum 0 0 l) n), .int .i64 (code (pNum 0 0 l))] ∧ Keep w w' := by
 have hl := hs.len
 refine X.enter Zf112 rfl Tryz.ntmps112 rfl<|Zs<|Zr<|Zoa rfl rfl<|Zoa rfl rfl<|Zoa rfl rfl<|Ze<|Zs<|Zr<|Zoa rfl rfl<|Zoa rfl rfl<|Ze<|Zs<|Zs<|Zr<|Zoa rfl rfl<|Ze<|Zb<|X.loopL (σ := Nat × Nat) (fun s => [(0, .slice A n c), (5, .int .u64 ((s.2 : Nat) : Int)), (6, .int .u64 ((128 ^ s.1 : Nat) : Int)), (7, .int .i64 (s.1 : Int))]) (fun s w' => s.1 ≤ n ∧ s.1 ≤ 9 ∧ s.2 < 128 ^ s.1 ∧ pNum s.1 s.2 (l.drop s.1) = pNum 0 0 l ∧ Keep w w') (fun s => n - s.1) (0, 0) ⟨rfl, rfl, rfl, rfl, trivial⟩ ⟨by simp, by simp, by simp, by simp, (Keep.refl _)⟩ ?_
 rintro ⟨i, acc⟩ b wl ⟨hin, hi0, ha, hp, hk⟩ hback
 simp only at hin hi0 ha hp
 have hk' := hk.size
 refine Zs<|Zs<|Zr<|Zomi rfl rfl<|Zoms rfl rfl<|Zo (X.lenSl Zu43 rfl) rfl<|X.opP X.wN rfl rfl (X.lss rfl rfl) (fun h11 => ?_) (fun h11 => ?_)
 ·obtain ⟨y, hx⟩ := getN i hl h11
  have hd := drop_at hx
  have huy := y.toNat_lt
  rw [hd] at hp
  refine Zomt rfl rfl<|Zg (Zdmi rfl) rfl rfl rfl rfl<|X.opP (X.wG rfl rfl rfl) rfl rfl (X.lss rfl rfl) (fun h14 => ?_) (fun h14 => ?_)
  ·refine Zo (ZdTt rfl rfl) rfl<|Ze<|Zt rfl<|Zk<|Zs<|Zb<|Zs<|Zs<|Zr<|Zomi rfl rfl<|X.opP X.wN rfl rfl (X.eqI rfl rfl) (fun h19 => ?_) (fun h19 => ?_)
   ·refine Zomt rfl rfl<|Zg (Zdms rfl) rfl rfl rfl rfl<|Zg (Zdmi rfl) rfl rfl rfl rfl<|Zg (X.idxS (hs.keep hk) Zu43 Zs5 rfl rfl ⟨by omega, by omega⟩) rfl rfl rfl rfl<|Zg (X.loadS Zi5 (hs.keep hk) hx rfl (fun _ h => by rw [h.1]; rfl)) rfl rfl rfl rfl ?_
    refine X.opP (X.wG rfl rfl rfl) rfl rfl (X.gtr rfl rfl) (fun h25 => ?_) (fun h25 => ?_)
    ·refine Zo (ZdTt rfl rfl) rfl<|Zomt rfl rfl<|Zp rfl rfl rfl<|Zp rfl rfl rfl<|Zp rfl rfl rfl<|Zu rfl rfl rfl<|Zu rfl rfl rfl<|Zu rfl rfl rfl<|Zu rfl rfl rfl<|Zu rfl rfl rfl<|Zp rfl rfl rfl<|Zo (ZdTt rfl rfl) rfl<|Ze<|Zt rfl<|Zs<|Zr<|Zoa rfl rfl<|Zoa rfl rfl<|Zoa rfl rfl<|Ze<|X.ret3 (v1 := (.int .u64 _)) (v2 := (.int .i64 _)) (v3 := (.int .i64 _)) Zf112 Zr112 rfl rfl rfl ?_
     first
     | exact ⟨by rw [← hp]; rfl, hk⟩
     | exact ⟨by rw [← hp, pNum, if_pos Zz]; rfl, hk⟩
     | exact ⟨by rw [← hp, pNum, if_neg Zz, if_pos Zz]; simp only [told, cnt, code, Option.isSome_some, if_true]; rw [List.length_drop, show ((n : Nat) : Int) - ((l.length - (i + 1) : Nat) : Int) = (i : Int) + 1 by omega], hk⟩
    ·refine Zo (ZdTf rfl rfl) rfl<|Zomf rfl rfl<|Zg (Zdmi rfl) rfl rfl rfl rfl<|X.opP (X.wG rfl rfl rfl) rfl rfl (X.gtr rfl rfl) (fun h29 => ?_) (fun h29 => ?_)
     ·refine Zg (Zdmt rfl) rfl rfl rfl rfl<|Zg (Zdms rfl) rfl rfl rfl rfl<|Zg (Zdmi rfl) rfl rfl rfl rfl<|Zg (X.idxS (hs.keep hk) Zu43 Zs5 rfl rfl ⟨by omega, by omega⟩) rfl rfl rfl rfl<|Zg (X.loadS Zi5 (hs.keep hk) hx rfl (fun _ h => by rw [h.1]; rfl)) rfl rfl rfl rfl ?_
      refine X.opP (X.wG rfl rfl rfl) rfl rfl (X.eqI rfl rfl) (fun h35 => ?_) (fun h35 => ?_)
      ·refine Zg (ZdTt rfl rfl) rfl rfl rfl rfl<|Zo (ZdFt rfl rfl) rfl<|Ze<|Zt rfl<|Zs<|Zr<|Zoa rfl rfl<|Zoa rfl rfl<|Zoa rfl rfl<|Ze<|X.ret3 (v1 := (.int .u64 _)) (v2 := (.int .i64 _)) (v3 := (.int .i64 _)) Zf112 Zr112 rfl rfl rfl ?_
       first
       | exact ⟨by rw [← hp]; rfl, hk⟩
       | exact ⟨by rw [← hp, pNum, if_pos Zz]; rfl, hk⟩
       | exact ⟨by rw [← hp, pNum, if_neg Zz, if_pos Zz]; simp only [told, cnt, code, Option.isSome_some, if_true]; rw [List.length_drop, show ((n : Nat) : Int) - ((l.length - (i + 1) : Nat) : Int) = (i : Int) + 1 by omega], hk⟩
      ·refine Zg (ZdTf rfl rfl) rfl rfl rfl rfl<|Zo (ZdFf rfl rfl) rfl<|Ze<|Zf rfl<|Zk<|Zs<|Zr<|Zomu rfl rfl<|Zoms rfl rfl<|Zomi rfl rfl<|Zo (X.idxS (hs.keep hk) Zu43 Zs5 rfl rfl ⟨by omega, by omega⟩) rfl<|Zo (X.loadS Zi5 (hs.keep hk) hx rfl (fun _ h => by rw [h.1]; rfl)) rfl ?_
       refine Zo (X.rem (c := ((y.toNat % 128 : Nat) : Int)) rfl rfl (by decide) rfl) rfl<|Zo (X.cvI Zu5 Zu119 rfl (X.w_u64 Zz)) rfl<|Zomu rfl rfl<|Zo (X.mul (c := ((y.toNat % 128 * 128 ^ i : Nat) : Int)) rfl rfl (mul_n _ _ (Nat.lt_of_le_of_lt (Nat.le_add_left _ acc) (num_bound y hi0 ha Zz).1))) rfl<|Zo (X.add (c := ((acc + y.toNat % 128 * 128 ^ i : Nat) : Int)) rfl rfl (add_n _ _ (num_bound y hi0 ha Zz).1)) rfl<|Zoau rfl rfl<|Ze<|Zs<|Zs<|Zr<|Zoms rfl rfl<|Zomi rfl rfl<|Zo (X.idxS (hs.keep hk) Zu43 Zs5 rfl rfl ⟨by omega, by omega⟩) rfl<|Zo (X.loadS Zi5 (hs.keep hk) hx rfl (fun _ h => by rw [h.1]; rfl)) rfl ?_
       refine X.opP X.wN rfl rfl (X.lss rfl rfl) (fun h52 => ?_) (fun h52 => ?_)
       ·refine Ze<|Zt rfl<|Zs<|Zr<|Zomu rfl rfl<|Zomi rfl rfl<|Zo (X.add rfl rfl (X.w_i64 Zz)) rfl<|Zoau rfl rfl<|Zoai rfl rfl<|Zoa rfl rfl<|Ze<|X.ret3 (v1 := (.int .u64 _)) (v2 := (.int .i64 _)) (v3 := (.int .i64 _)) Zf112 Zr112 rfl rfl rfl ?_
        first
        | exact ⟨by rw [← hp]; rfl, hk⟩
        | exact ⟨by rw [← hp, pNum, if_pos Zz]; rfl, hk⟩
        | exact ⟨by rw [← hp, pNum, if_neg Zz, if_pos Zz]; simp only [told, cnt, code, Option.isSome_some, if_true]; rw [List.length_drop, show ((n : Nat) : Int) - ((l.length - (i + 1) : Nat) : Int) = (i : Int) + 1 by omega], hk⟩
       ·refine Ze<|Zf rfl<|Zk<|Zr<|Zomu rfl rfl<|Zo (X.mul (c := ((128 ^ (i + 1) : Nat) : Int)) rfl rfl zq12) rfl ?_
        refine Zoau rfl rfl<|Ze<|Zi<|Zr<|Zomi rfl rfl<|Zo (X.add rfl rfl (X.w_i64 Zz)) rfl<|Zoai rfl rfl<|Ze ?_
        refine hback (i + 1, acc + y.toNat % 128 * 128 ^ i) _ _ ⟨rfl, rfl, rfl, rfl, trivial⟩ ⟨by dsimp only; omega, by have := (num_bound y hi0 ha Zz).2.2 Zz; dsimp only; omega, (num_bound y hi0 ha Zz).2.1, by dsimp only; rw [← hp, pNum, if_neg Zz, if_neg Zz], hk⟩ (by dsimp only; omega)
     ·refine Zg (Zdmf rfl) rfl rfl rfl rfl<|Zp rfl rfl rfl<|Zp rfl rfl rfl<|Zp rfl rfl rfl<|Zp rfl rfl rfl<|Zp rfl rfl rfl<|Zg (ZdFf rfl rfl) rfl rfl rfl rfl<|Zo (ZdFf rfl rfl) rfl<|Ze<|Zf rfl<|Zk<|Zs<|Zr<|Zomu rfl rfl<|Zoms rfl rfl<|Zomi rfl rfl<|Zo (X.idxS (hs.keep hk) Zu43 Zs5 rfl rfl ⟨by omega, by omega⟩) rfl<|Zo (X.loadS Zi5 (hs.keep hk) hx rfl (fun _ h => by rw [h.1]; rfl)) rfl ?_
      refine Zo (X.rem (c := ((y.toNat % 128 : Nat) : Int)) rfl rfl (by decide) rfl) rfl<|Zo (X.cvI Zu5 Zu119 rfl (X.w_u64 Zz)) rfl<|Zomu rfl rfl<|Zo (X.mul (c := ((y.toNat % 128 * 128 ^ i : Nat) : Int)) rfl rfl (mul_n _ _ (Nat.lt_of_le_of_lt (Nat.le_add_left _ acc) (num_bound y hi0 ha Zz).1))) rfl<|Zo (X.add (c := ((acc + y.toNat % 128 * 128 ^ i : Nat) : Int)) rfl rfl (add_n _ _ (num_bound y hi0 ha Zz).1)) rfl<|Zoau rfl rfl<|Ze<|Zs<|Zs<|Zr<|Zoms rfl rfl<|Zomi rfl rfl<|Zo (X.idxS (hs.keep hk) Zu43 Zs5 rfl rfl ⟨by omega, by omega⟩) rfl<|Zo (X.loadS Zi5 (hs.keep hk) hx rfl (fun _ h => by rw [h.1]; rfl)) rfl ?_
      refine X.opP X.wN rfl rfl (X.lss rfl rfl) (fun h52 => ?_) (fun h52 => ?_)
      ·refine Ze<|Zt rfl<|Zs<|Zr<|Zomu rfl rfl<|Zomi rfl rfl<|Zo (X.add rfl rfl (X.w_i64 Zz)) rfl<|Zoau rfl rfl<|Zoai rfl rfl<|Zoa rfl rfl<|Ze<|X.ret3 (v1 := (.int .u64 _)) (v2 := (.int .i64 _)) (v3 := (.int .i64 _)) Zf112 Zr112 rfl rfl rfl ?_
       first
       | exact ⟨by rw [← hp]; rfl, hk⟩
       | exact ⟨by rw [← hp, pNum, if_pos Zz]; rfl, hk⟩
       | exact ⟨by rw [← hp, pNum, if_neg Zz, if_pos Zz]; simp only [told, cnt, code, Option.isSome_some, if_true]; rw [List.length_drop, show ((n : Nat) : Int) - ((l.length - (i + 1) : Nat) : Int) = (i : Int) + 1 by omega], hk⟩
      ·refine Ze<|Zf rfl<|Zk<|Zr<|Zomu rfl rfl<|Zo (X.mul (c := ((128 ^ (i + 1) : Nat) : Int)) rfl rfl zq12) rfl ?_
       refine Zoau rfl rfl<|Ze<|Zi<|Zr<|Zomi rfl rfl<|Zo (X.add rfl rfl (X.w_i64 Zz)) rfl<|Zoai rfl rfl<|Ze ?_
       refine hback (i + 1, acc + y.toNat % 128 * 128 ^ i) _ _ ⟨rfl, rfl, rfl, rfl, trivial⟩ ⟨by dsimp only; omega, by have := (num_bound y hi0 ha Zz).2.2 Zz; dsimp only; omega, (num_bound y hi0 ha Zz).2.1, by dsimp only; rw [← hp, pNum, if_neg Zz, if_neg Zz], hk⟩ (by dsimp only; omega)
   ·refine Zomf rfl rfl<|Zp rfl rfl rfl<|Zp rfl rfl rfl<|Zp rfl rfl rfl<|Zp rfl rfl rfl<|Zp rfl rfl rfl<|Zo (ZdFf rfl rfl) rfl<|Zomf rfl rfl<|Zg (Zdmi rfl) rfl rfl rfl rfl<|X.opP (X.wG rfl rfl rfl) rfl rfl (X.gtr rfl rfl) (fun h29 => ?_) (fun h29 => ?_)
    ·refine Zg (Zdmt rfl) rfl rfl rfl rfl<|Zg (Zdms rfl) rfl rfl rfl rfl<|Zg (Zdmi rfl) rfl rfl rfl rfl<|Zg (X.idxS (hs.keep hk) Zu43 Zs5 rfl rfl ⟨by omega, by omega⟩) rfl rfl rfl rfl<|Zg (X.loadS Zi5 (hs.keep hk) hx rfl (fun _ h => by rw [h.1]; rfl)) rfl rfl rfl rfl ?_
     refine X.opP (X.wG rfl rfl rfl) rfl rfl (X.eqI rfl rfl) (fun h35 => ?_) (fun h35 => ?_)
     ·refine Zg (ZdTt rfl rfl) rfl rfl rfl rfl<|Zo (ZdFt rfl rfl) rfl<|Ze<|Zt rfl<|Zs<|Zr<|Zoa rfl rfl<|Zoa rfl rfl<|Zoa rfl rfl<|Ze<|X.ret3 (v1 := (.int .u64 _)) (v2 := (.int .i64 _)) (v3 := (.int .i64 _)) Zf112 Zr112 rfl rfl rfl ?_
      first
      | exact ⟨by rw [← hp]; rfl, hk⟩
      | exact ⟨by rw [← hp, pNum, if_pos Zz]; rfl, hk⟩
      | exact ⟨by rw [← hp, pNum, if_neg Zz, if_pos Zz]; simp only [told, cnt, code, Option.isSome_some, if_true]; rw [List.length_drop, show ((n : Nat) : Int) - ((l.length - (i + 1) : Nat) : Int) = (i : Int) + 1 by omega], hk⟩
     ·refine Zg (ZdTf rfl rfl) rfl rfl rfl rfl<|Zo (ZdFf rfl rfl) rfl<|Ze<|Zf rfl<|Zk<|Zs<|Zr<|Zomu rfl rfl<|Zoms rfl rfl<|Zomi rfl rfl<|Zo (X.idxS (hs.keep hk) Zu43 Zs5 rfl rfl ⟨by omega, by omega⟩) rfl<|Zo (X.loadS Zi5 (hs.keep hk) hx rfl (fun _ h => by rw [h.1]; rfl)) rfl ?_
      refine Zo (X.rem (c := ((y.toNat % 128 : Nat) : Int)) rfl rfl (by decide) rfl) rfl<|Zo (X.cvI Zu5 Zu119 rfl (X.w_u64 Zz)) rfl<|Zomu rfl rfl<|Zo (X.mul (c := ((y.toNat % 128 * 128 ^ i : Nat) : Int)) rfl rfl (mul_n _ _ (Nat.lt_of_le_of_lt (Nat.le_add_left _ acc) (num_bound y hi0 ha Zz).1))) rfl<|Zo (X.add (c := ((acc + y.toNat % 128 * 128 ^ i : Nat) : Int)) rfl rfl (add_n _ _ (num_bound y hi0 ha Zz).1)) rfl<|Zoau rfl rfl<|Ze<|Zs<|Zs<|Zr<|Zoms rfl rfl<|Zomi rfl rfl<|Zo (X.idxS (hs.keep hk) Zu43 Zs5 rfl rfl ⟨by omega, by omega⟩) rfl<|Zo (X.loadS Zi5 (hs.keep hk) hx rfl (fun _ h => by rw [h.1]; rfl)) rfl ?_
      refine X.opP X.wN rfl rfl (X.lss rfl rfl) (fun h52 => ?_) (fun h52 => ?_)
      ·refine Ze<|Zt rfl<|Zs<|Zr<|Zomu rfl rfl<|Zomi rfl rfl<|Zo (X.add rfl rfl (X.w_i64 Zz)) rfl<|Zoau rfl rfl<|Zoai rfl rfl<|Zoa rfl rfl<|Ze<|X.ret3 (v1 := (.int .u64 _)) (v2 := (.int .i64 _)) (v3 := (.int .i64 _)) Zf112 Zr112 rfl rfl rfl ?_
       first
       | exact ⟨by rw [← hp]; rfl, hk⟩
       | exact ⟨by rw [← hp, pNum, if_pos Zz]; rfl, hk⟩
       | exact ⟨by rw [← hp, pNum, if_neg Zz, if_pos Zz]; simp only [told, cnt, code, Option.isSome_some, if_true]; rw [List.length_drop, show ((n : Nat) : Int) - ((l.length - (i + 1) : Nat) : Int) = (i : Int) + 1 by omega], hk⟩
      ·refine Ze<|Zf rfl<|Zk<|Zr<|Zomu rfl rfl<|Zo (X.mul (c := ((128 ^ (i + 1) : Nat) : Int)) rfl rfl zq12) rfl ?_
       refine Zoau rfl rfl<|Ze<|Zi<|Zr<|Zomi rfl rfl<|Zo (X.add rfl rfl (X.w_i64 Zz)) rfl<|Zoai rfl rfl<|Ze ?_
       refine hback (i + 1, acc + y.toNat % 128 * 128 ^ i) _ _ ⟨rfl, rfl, rfl, rfl, trivial⟩ ⟨by dsimp only; omega, by have := (num_bound y hi0 ha Zz).2.2 Zz; dsimp only; omega, (num_bound y hi0 ha Zz).2.1, by dsimp only; rw [← hp, pNum, if_neg Zz, if_neg Zz], hk⟩ (by dsimp only; omega)
    ·refine Zg (Zdmf rfl) rfl rfl rfl rfl<|Zp rfl rfl rfl<|Zp rfl rfl rfl<|Zp rfl rfl rfl<|Zp rfl rfl rfl<|Zp rfl rfl rfl<|Zg (ZdFf rfl rfl) rfl rfl rfl rfl<|Zo (ZdFf rfl rfl) rfl<|Ze<|Zf rfl<|Zk<|Zs<|Zr<|Zomu rfl rfl<|Zoms rfl rfl<|Zomi rfl rfl<|Zo (X.idxS (hs.keep hk) Zu43 Zs5 rfl rfl ⟨by omega, by omega⟩) rfl<|Zo (X.loadS Zi5 (hs.keep hk) hx rfl (fun _ h => by rw [h.1]; rfl)) rfl ?_
     refine Zo (X.rem (c := ((y.toNat % 128 : Nat) : Int)) rfl rfl (by decide) rfl) rfl<|Zo (X.cvI Zu5 Zu119 rfl (X.w_u64 Zz)) rfl<|Zomu rfl rfl<|Zo (X.mul (c := ((y.toNat % 128 * 128 ^ i : Nat) : Int)) rfl rfl (mul_n _ _ (Nat.lt_of_le_of_lt (Nat.le_add_left _ acc) (num_bound y hi0 ha Zz).1))) rfl<|Zo (X.add (c := ((acc + y.toNat % 128 * 128 ^ i : Nat) : Int)) rfl rfl (add_n _ _ (num_bound y hi0 ha Zz).1)) rfl<|Zoau rfl rfl<|Ze<|Zs<|Zs<|Zr<|Zoms rfl rfl<|Zomi rfl rfl<|Zo (X.idxS (hs.keep hk) Zu43 Zs5 rfl rfl ⟨by omega, by omega⟩) rfl<|Zo (X.loadS Zi5 (hs.keep hk) hx rfl (fun _ h => by rw [h.1]; rfl)) rfl ?_
     refine X.opP X.wN rfl rfl (X.lss rfl rfl) (fun h52 => ?_) (fun h52 => ?_)
     ·refine Ze<|Zt rfl<|Zs<|Zr<|Zomu rfl rfl<|Zomi rfl rfl<|Zo (X.add rfl rfl (X.w_i64 Zz)) rfl<|Zoau rfl rfl<|Zoai rfl rfl<|Zoa rfl rfl<|Ze<|X.ret3 (v1 := (.int .u64 _)) (v2 := (.int .i64 _)) (v3 := (.int .i64 _)) Zf112 Zr112 rfl rfl rfl ?_
      first
      | exact ⟨by rw [← hp]; rfl, hk⟩
      | exact ⟨by rw [← hp, pNum, if_pos Zz]; rfl, hk⟩
      | exact ⟨by rw [← hp, pNum, if_neg Zz, if_pos Zz]; simp only [told, cnt, code, Option.isSome_some, if_true]; rw [List.length_drop, show ((n : Nat) : Int) - ((l.length - (i + 1) : Nat) : Int) = (i : Int) + 1 by omega], hk⟩
     ·refine Ze<|Zf rfl<|Zk<|Zr<|Zomu rfl rfl<|Zo (X.mul (c := ((128 ^ (i + 1) : Nat) : Int)) rfl rfl zq12) rfl ?_
      refine Zoau rfl rfl<|Ze<|Zi<|Zr<|Zomi rfl rfl<|Zo (X.add rfl rfl (X.w_i64 Zz)) rfl<|Zoai rfl rfl<|Ze ?_
      refine hback (i + 1, acc + y.toNat % 128 * 128 ^ i) _ _ ⟨rfl, rfl, rfl, rfl, trivial⟩ ⟨by dsimp only; omega, by have := (num_bound y hi0 ha Zz).2.2 Zz; dsimp only; omega, (num_bound y hi0 ha Zz).2.1, by dsimp only; rw [← hp, pNum, if_neg Zz, if_neg Zz], hk⟩ (by dsimp only; omega)
  ·omega
 ·rw [List.drop_of_length_le Zz, pNum] at hp
  refine Zomf rfl rfl<|Zp rfl rfl rfl<|Zp rfl rfl rfl<|Zo (ZdFf rfl rfl) rfl<|Ze<|Zf rfl<|Zx rfl<|Zs<|Zr<|Zoa rfl rfl<|Zoa rfl rfl<|Zoa rfl rfl<|Ze<|X.ret3 (v1 := (.int .u64 _)) (v2 := (.int .i64 _)) (v3 := (.int .i64 _)) Zf112 Zr112 rfl rfl rfl ?_
  first
  | exact ⟨by rw [← hp]; rfl, hk⟩
  | exact ⟨by rw [← hp, pNum, if_pos Zz]; rfl, hk⟩
  | exact ⟨by rw [← hp, pNum, if_neg Zz, if_pos Zz]; simp only [told, cnt, code, Option.isSome_some, if_true]; rw [List.length_drop, show ((n : Nat) : Int) - ((l.length - (i + 1) : Nat) : Int) = (i : Int) + 1 by omega], hk⟩
theorem told_lt (l : List UInt8) : told (pNum 0 0 l) 0 < 18446744073709551616 := by
  cases hp : pNum 0 0 l with
  | none => simp [told]
  | some b => exact pNum_lt l 0 0 b Zz (by simp) hp
theorem cnt_bd (l : List UInt8) : 0 ≤ cnt (pNum 0 0 l) l.length ∧ cnt (pNum 0 0 l) l.length ≤ (l.length : Int) := by
  cases hp : pNum 0 0 l with
  | none => simp [cnt]
  | some b =>
    have hj := pNum_j hp
    have hl : l.length = (numB b.1).length + b.2.length := by conv => lhs; rw [hj]; rw [List.length_append]
    simp only [cnt]; omega
theorem pText_none {most : Int} {l : List UInt8} (h : code (pNum 0 0 l) ≠ 0 ∨ most < 0 ∨ most < ((told (pNum 0 0 l) 0 : Nat) : Int) ∨ 1048576 < told (pNum 0 0 l) 0 ∨ (l.length : Int) - cnt (pNum 0 0 l) l.length < ((told (pNum 0 0 l) 0 : Nat) : Int)) : pText most l = none := by
  unfold pText
  cases hp : pNum 0 0 l with
  | none => rfl
  | some b =>
    obtain ⟨a, ys⟩ := b
    rw [hp] at h
    simp only [told, cnt, code, Option.isSome_some, if_true] at h
    dsimp only
    rw [if_pos Zz]
theorem pText_some {most : Int} {l : List UInt8} (h0 : code (pNum 0 0 l) = 0) (h1 : ¬ most < 0) (h2 : ¬ most < ((told (pNum 0 0 l) 0 : Nat) : Int)) (h3 : ¬ 1048576 < told (pNum 0 0 l) 0) (h4 : ¬ (l.length : Int) - cnt (pNum 0 0 l) l.length < ((told (pNum 0 0 l) 0 : Nat) : Int)) :
    ∃ k a : Nat, cnt (pNum 0 0 l) l.length = (k : Int) ∧ told (pNum 0 0 l) 0 = a ∧ k + a ≤ l.length ∧ pText most l = some ((l.drop k).take a, l.drop (k + a)) := by
  unfold pText
  cases hp : pNum 0 0 l with
  | none => rw [hp] at h0; simp [code] at h0
  | some b =>
    obtain ⟨a, ys⟩ := b
    have hj := pNum_j hp
    rw [hp] at h2 h3 h4
    simp only [told, cnt] at h2 h3 h4 ⊢
    have hl : l.length = (numB a).length + ys.length := by conv => lhs; rw [hj]; rw [List.length_append]
    have hd : l.drop (numB a).length = ys := by conv => lhs; rw [hj]; simp
    refine ⟨(numB a).length, a, by omega, rfl, by omega, ?_⟩
    rw [if_neg Zz, hd, ← List.drop_drop, hd]
theorem RTakeText_c (most : Int) (hmo : okI most) {lo hi : Nat} {A : Option Addr} {n c : Nat} {l : List UInt8} (w : World) (hs : Sl KB lo hi w A n l) (hnc : n ≤ c) (hn : n ≤ 1000000) : Ret Tryz.prog 115 #[.slice A n c, .int .i64 most] w fun r w' => ∃ v, r = .tuple #[v, .int .i64 (cnt (pText most l) n), .int .i64 (code (pText most l))] ∧ Mine KB 5 (fun k => w.heap.size ≤ k) 0 0 w' v (told (pText most l) []) ∧ Keep w w' := by
 have hl := hs.len
 have hlt := told_lt l
 have hcb := cnt_bd l
 rw [hl] at hcb
 unfold okI at hmo
 refine X.enter Zf115 rfl Tryz.ntmps115 rfl<|Zs<|Zr<|Zoa rfl rfl<|Zoa rfl rfl<|Zoa rfl rfl<|Ze<|Zs<|Zr<|Zoms rfl rfl<|Zc (X.callE (RTakeNum_c _ hs Zz Zz) Zc112 rfl rfl) rfl ?_
 rintro _ w1 ⟨rfl, hk1⟩
 have hk1' := hk1.size
 refine Zom rfl rfl<|Zo (X.extr rfl rfl) rfl<|Zo (X.extr rfl rfl) rfl<|Zo (X.extr rfl rfl) rfl<|Zoau rfl rfl<|Zoai rfl rfl<|Zoai rfl rfl<|Ze<|Zs<|Zs<|Zr<|Zomi rfl rfl<|X.opP X.wN rfl rfl (X.neI rfl rfl) (fun h17 => ?_) (fun h17 => ?_)
 ·refine Zomt rfl rfl<|Zp rfl rfl rfl<|Zp rfl rfl rfl<|Zo (ZdTt rfl rfl) rfl<|Zomt rfl rfl<|Zp rfl rfl rfl<|Zp rfl rfl rfl<|Zp rfl rfl rfl<|Zp rfl rfl rfl<|Zo (ZdTt rfl rfl) rfl<|Zomt rfl rfl<|Zp rfl rfl rfl<|Zp rfl rfl rfl<|Zo (ZdTt rfl rfl) rfl<|Zomt rfl rfl<|Zp rfl rfl rfl<|Zp rfl rfl rfl<|Zp rfl rfl rfl<|Zp rfl rfl rfl<|Zp rfl rfl rfl<|Zp rfl rfl rfl<|Zp rfl rfl rfl<|Zo (ZdTt rfl rfl) rfl<|Ze<|Zt rfl<|Zs<|Zr<|Zoa rfl rfl<|Zoa rfl rfl<|Zoa rfl rfl<|Ze<|X.ret3 (v2 := (.int .i64 _)) (v3 := (.int .i64 _)) Zf115 Zr115 rfl rfl rfl ?_
  first
  | (have e := pText_none (most := most) (l := l) (by rw [hl]; omega); exact ⟨_, by rw [e]; rfl, by rw [e]; exact (Mine.nil _ _ _ _ _ _), hk1⟩)
  | exact ⟨_, by rw [hpt]; simp only [cnt, code, Option.isSome_some, if_true]; rw [List.length_drop, show ((n : Nat) : Int) - ((l.length - (k + a) : Nat) : Int) = cnt (pNum 0 0 l) n + ((told (pNum 0 0 l) 0 : Nat) : Int) by omega]; have h0 : code (pNum 0 0 l) = 0 := Zz; first | rfl | rw [h0], by rw [hpt]; exact (Mine.nil _ _ _ _ _ _), hk1⟩
 ·refine Zomf rfl rfl<|Zg (Zdmi rfl) rfl rfl rfl rfl<|X.opP (X.wG rfl rfl rfl) rfl rfl (X.lss rfl rfl) (fun h20 => ?_) (fun h20 => ?_)
  ·refine Zo (ZdFt rfl rfl) rfl<|Zomt rfl rfl<|Zp rfl rfl rfl<|Zp rfl rfl rfl<|Zp rfl rfl rfl<|Zp rfl rfl rfl<|Zo (ZdTt rfl rfl) rfl<|Zomt rfl rfl<|Zp rfl rfl rfl<|Zp rfl rfl rfl<|Zo (ZdTt rfl rfl) rfl<|Zomt rfl rfl<|Zp rfl rfl rfl<|Zp rfl rfl rfl<|Zp rfl rfl rfl<|Zp rfl rfl rfl<|Zp rfl rfl rfl<|Zp rfl rfl rfl<|Zp rfl rfl rfl<|Zo (ZdTt rfl rfl) rfl<|Ze<|Zt rfl<|Zs<|Zr<|Zoa rfl rfl<|Zoa rfl rfl<|Zoa rfl rfl<|Ze<|X.ret3 (v2 := (.int .i64 _)) (v3 := (.int .i64 _)) Zf115 Zr115 rfl rfl rfl ?_
   first
   | (have e := pText_none (most := most) (l := l) (by rw [hl]; omega); exact ⟨_, by rw [e]; rfl, by rw [e]; exact (Mine.nil _ _ _ _ _ _), hk1⟩)
   | exact ⟨_, by rw [hpt]; simp only [cnt, code, Option.isSome_some, if_true]; rw [List.length_drop, show ((n : Nat) : Int) - ((l.length - (k + a) : Nat) : Int) = cnt (pNum 0 0 l) n + ((told (pNum 0 0 l) 0 : Nat) : Int) by omega]; have h0 : code (pNum 0 0 l) = 0 := Zz; first | rfl | rw [h0], by rw [hpt]; exact (Mine.nil _ _ _ _ _ _), hk1⟩
  ·refine Zo (ZdFf rfl rfl) rfl<|Zomf rfl rfl<|Zg (Zdmu rfl) rfl rfl rfl rfl<|Zg (Zdmi rfl) rfl rfl rfl rfl<|Zg (X.cvI Zu3 Zu119 rfl (X.w_u64 Zz)) rfl rfl rfl rfl<|X.opP (X.wG rfl rfl rfl) rfl rfl (X.gtr rfl rfl) (fun h26 => ?_) (fun h26 => ?_)
   ·refine Zo (ZdFt rfl rfl) rfl<|Zomt rfl rfl<|Zp rfl rfl rfl<|Zp rfl rfl rfl<|Zo (ZdTt rfl rfl) rfl<|Zomt rfl rfl<|Zp rfl rfl rfl<|Zp rfl rfl rfl<|Zp rfl rfl rfl<|Zp rfl rfl rfl<|Zp rfl rfl rfl<|Zp rfl rfl rfl<|Zp rfl rfl rfl<|Zo (ZdTt rfl rfl) rfl<|Ze<|Zt rfl<|Zs<|Zr<|Zoa rfl rfl<|Zoa rfl rfl<|Zoa rfl rfl<|Ze<|X.ret3 (v2 := (.int .i64 _)) (v3 := (.int .i64 _)) Zf115 Zr115 rfl rfl rfl ?_
    first
    | (have e := pText_none (most := most) (l := l) (by rw [hl]; omega); exact ⟨_, by rw [e]; rfl, by rw [e]; exact (Mine.nil _ _ _ _ _ _), hk1⟩)
    | exact ⟨_, by rw [hpt]; simp only [cnt, code, Option.isSome_some, if_true]; rw [List.length_drop, show ((n : Nat) : Int) - ((l.length - (k + a) : Nat) : Int) = cnt (pNum 0 0 l) n + ((told (pNum 0 0 l) 0 : Nat) : Int) by omega]; have h0 : code (pNum 0 0 l) = 0 := Zz; first | rfl | rw [h0], by rw [hpt]; exact (Mine.nil _ _ _ _ _ _), hk1⟩
   ·refine Zo (ZdFf rfl rfl) rfl<|Zomf rfl rfl<|Zg (Zdmu rfl) rfl rfl rfl rfl<|X.opP (X.wG rfl rfl rfl) rfl rfl (X.gtr rfl rfl) (fun h30 => ?_) (fun h30 => ?_)
    ·refine Zo (ZdFt rfl rfl) rfl<|Zomt rfl rfl<|Zp rfl rfl rfl<|Zp rfl rfl rfl<|Zp rfl rfl rfl<|Zp rfl rfl rfl<|Zp rfl rfl rfl<|Zp rfl rfl rfl<|Zp rfl rfl rfl<|Zo (ZdTt rfl rfl) rfl<|Ze<|Zt rfl<|Zs<|Zr<|Zoa rfl rfl<|Zoa rfl rfl<|Zoa rfl rfl<|Ze<|X.ret3 (v2 := (.int .i64 _)) (v3 := (.int .i64 _)) Zf115 Zr115 rfl rfl rfl ?_
     first
     | (have e := pText_none (most := most) (l := l) (by rw [hl]; omega); exact ⟨_, by rw [e]; rfl, by rw [e]; exact (Mine.nil _ _ _ _ _ _), hk1⟩)
     | exact ⟨_, by rw [hpt]; simp only [cnt, code, Option.isSome_some, if_true]; rw [List.length_drop, show ((n : Nat) : Int) - ((l.length - (k + a) : Nat) : Int) = cnt (pNum 0 0 l) n + ((told (pNum 0 0 l) 0 : Nat) : Int) by omega]; have h0 : code (pNum 0 0 l) = 0 := Zz; first | rfl | rw [h0], by rw [hpt]; exact (Mine.nil _ _ _ _ _ _), hk1⟩
    ·refine Zo (ZdFf rfl rfl) rfl<|Zomf rfl rfl<|Zg (Zdmu rfl) rfl rfl rfl rfl<|Zg (Zdms rfl) rfl rfl rfl rfl<|Zg (X.lenSl Zu43 rfl) rfl rfl rfl rfl<|Zg (Zdmi rfl) rfl rfl rfl rfl<|Zg (X.sub rfl rfl (X.w_i64 Zz)) rfl rfl rfl rfl<|Zg (X.cvI Zu3 Zu119 rfl (X.w_u64 Zz)) rfl rfl rfl rfl<|X.opP (X.wG rfl rfl rfl) rfl rfl (X.gtr rfl rfl) (fun h39 => ?_) (fun h39 => ?_)
     ·refine Zo (ZdFt rfl rfl) rfl<|Ze<|Zt rfl<|Zs<|Zr<|Zoa rfl rfl<|Zoa rfl rfl<|Zoa rfl rfl<|Ze<|X.ret3 (v2 := (.int .i64 _)) (v3 := (.int .i64 _)) Zf115 Zr115 rfl rfl rfl ?_
      first
      | (have e := pText_none (most := most) (l := l) (by rw [hl]; omega); exact ⟨_, by rw [e]; rfl, by rw [e]; exact (Mine.nil _ _ _ _ _ _), hk1⟩)
      | exact ⟨_, by rw [hpt]; simp only [cnt, code, Option.isSome_some, if_true]; rw [List.length_drop, show ((n : Nat) : Int) - ((l.length - (k + a) : Nat) : Int) = cnt (pNum 0 0 l) n + ((told (pNum 0 0 l) 0 : Nat) : Int) by omega]; have h0 : code (pNum 0 0 l) = 0 := Zz; first | rfl | rw [h0], by rw [hpt]; exact (Mine.nil _ _ _ _ _ _), hk1⟩
     ·rw [← hl] at h39
      obtain ⟨k, a, hk1e, hae, hka, hpt⟩ := pText_some (most := most) (l := l) Zz Zz Zz Zz Zz
      rw [hl] at hk1e
      refine Zo (ZdFf rfl rfl) rfl<|Ze<|Zf rfl<|Zk<|Zs<|Zr<|Zc (X.lit0E (K := KB) (S := fun k => w.heap.size ≤ k) Zu43 Zs5 zq29) rfl ?_
      rintro v2 w2 ⟨hM2, hk2, hz2⟩
      refine Zoms rfl rfl<|Zomi rfl rfl<|Zomi rfl rfl<|Zomu rfl rfl<|Zo (X.cvI Zu119 Zu3 rfl (X.w_i64 Zz)) rfl<|Zo (X.add rfl rfl (X.w_i64 Zz)) rfl<|Zo (X.cutLH Zu43 Zs5 rfl rfl rfl Zz) rfl<|Zc (X.appE (K := KB) (S := fun k => w.heap.size ≤ k) KB_flat Zu43 E5 rfl rfl hM2 ((show Sl KB lo hi _ _ _ ((l.drop k).take a) from by have e := (hs.drop k c Zz hnc).take a Zz; have e2 : (cnt (pNum 0 0 l) n + ((told (pNum 0 0 l) 0 : Nat) : Int)).toNat - (cnt (pNum 0 0 l) n).toNat = a := Zz; have e3 : (cnt (pNum 0 0 l) n).toNat = k := Zz; rw [e2, e3]; exact e).keep (hk1.trans hk2)) zq9 zq29) rfl ?_
      rintro v3 w3 ⟨hM3, hx3⟩
      have hx3' := hx3.size
      refine Zomi rfl rfl<|Zomu rfl rfl<|Zo (X.cvI Zu119 Zu3 rfl (X.w_i64 Zz)) rfl<|Zo (X.add rfl rfl (X.w_i64 Zz)) rfl<|Zoa rfl rfl<|Zoai rfl rfl<|Zoa rfl rfl<|Ze<|X.ret3 (v2 := (.int .i64 _)) (v3 := (.int .i64 _)) Zf115 Zr115 rfl rfl rfl ?_
      first
      | (have e := pText_none (most := most) (l := l) (by rw [hl]; omega); exact ⟨_, by rw [e]; rfl, by rw [e]; exact hM3, ((hk1.trans hk2).step hx3 zq29)⟩)
      | exact ⟨_, by rw [hpt]; simp only [cnt, code, Option.isSome_some, if_true]; rw [List.length_drop, show ((n : Nat) : Int) - ((l.length - (k + a) : Nat) : Int) = cnt (pNum 0 0 l) n + ((told (pNum 0 0 l) 0 : Nat) : Int) by omega]; have h0 : code (pNum 0 0 l) = 0 := Zz; first | rfl | rw [h0], by rw [hpt]; exact hM3, ((hk1.trans hk2).step hx3 zq29)⟩
theorem cnt_bdT (most : Int) (l : List UInt8) : 0 ≤ cnt (pText most l) l.length ∧ cnt (pText most l) l.length ≤ (l.length : Int) := by
  cases hp : pText most l with
  | none => simp [cnt]
  | some b =>
    obtain ⟨hj, _⟩ := pText_just hp
    have hl : l.length = (textB b.1).length + b.2.length := by conv => lhs; rw [hj]; rw [List.length_append]
    simp only [cnt]; omega
theorem code_0 {α : Type} {o : Option (α × List UInt8)} (h : ¬ code o ≠ 0) : ∃ b, o = some b := by
  cases o with
  | none => simp [code] at h
  | some b => exact ⟨b, rfl⟩
theorem code_1 {α : Type} {o : Option (α × List UInt8)} (h : code o ≠ 0) : o = none := by
  cases o with
  | none => rfl
  | some b => simp [code] at h
theorem EPl : ElemInfo Tryz.prog 76 3 40 := ElemInfo.of (z := .agg #[.int .i64 0, .int .i64 0, .slice none 0 0]) Zl rfl rfl rfl
theorem pNum_drop {l : List UInt8} {z : Nat × List UInt8} (h : pNum 0 0 l = some z) : ∃ k : Nat, cnt (pNum 0 0 l) l.length = (k : Int) ∧ z.2 = l.drop k ∧ k + z.2.length = l.length ∧ 1 ≤ k := by
  obtain ⟨pre, hp, e⟩ := pNum_suf h
  have hl := congrArg List.length e
  rw [List.length_append] at hl
  have h1 := List.length_pos_iff.2 hp
  refine ⟨pre.length, ?_, ?_, by omega, h1⟩
  · rw [h]; show (l.length : Int) - (z.2.length : Int) = _; omega
  · rw [e, List.drop_left]
theorem RTN_c {lo hi : Nat} {A : Option Addr} {n c : Nat} {l : List UInt8} (w : World) (hs : Sl KB lo hi w A n l) (hnc : n ≤ c) (hn : n ≤ 1000000) : Ret Tryz.prog 112 #[.slice A n c] w fun r w' => ∃ (t k : Nat) (e : Int), r = .tuple #[.int .u64 (t : Int), .int .i64 (k : Int), .int .i64 e] ∧ t < 18446744073709551616 ∧ (e ≠ 0 → pNum 0 0 l = none) ∧ (e = 0 → ∃ x, pNum 0 0 l = some (t, x) ∧ x = l.drop k ∧ k + x.length = n ∧ 1 ≤ k) ∧ Keep w w' := by
  refine (RTakeNum_c w hs hnc hn).mono ?_
  rintro r w' ⟨rfl, hk⟩
  have hl := hs.len
  have hb := cnt_bd l
  refine ⟨told (pNum 0 0 l) 0, (cnt (pNum 0 0 l) n).toNat, code (pNum 0 0 l), ?_, told_lt l, code_1, fun h => ?_, hk⟩
  · rw [Int.toNat_of_nonneg (by rw [← hl]; exact hb.1)]
  · obtain ⟨b, hb⟩ := code_0 (fun g => g h)
    obtain ⟨k, h1, h2, h3, h4⟩ := pNum_drop hb
    rw [← hl, h1, Int.toNat_natCast]
    exact ⟨b.2, by rw [hb]; rfl, h2, h3, h4⟩
theorem pText_drop {most : Int} {l : List UInt8} {z : List UInt8 × List UInt8} (h : pText most l = some z) : ∃ k : Nat, cnt (pText most l) l.length = (k : Int) ∧ z.2 = l.drop k ∧ k + z.2.length = l.length := by
  obtain ⟨pre, hp, e⟩ := pText_suf h
  have hl := congrArg List.length e
  rw [List.length_append] at hl
  refine ⟨pre.length, ?_, ?_, by omega⟩
  · rw [h]; show (l.length : Int) - (z.2.length : Int) = _; omega
  · rw [e, List.drop_left]
theorem RTT_c {lo hi : Nat} {A : Option Addr} {n c : Nat} {l : List UInt8} (w : World) (hs : Sl KB lo hi w A n l) (hnc : n ≤ c) (hn : n ≤ 1000000) : Ret Tryz.prog 115 #[.slice A n c, .int .i64 1048576] w fun r w' => ∃ (A' : Option Addr) (c' : Nat) (kb : List UInt8) (k : Nat) (e : Int), r = .tuple #[.slice A' kb.length c', .int .i64 (k : Int), .int .i64 e] ∧ kb.length ≤ c' ∧ Sl KB w.heap.size w'.heap.size w' A' kb.length kb ∧ (e ≠ 0 → pText 1048576 l = none) ∧ (e = 0 → ∃ x, pText 1048576 l = some (kb, x) ∧ x = l.drop k ∧ k + x.length = n ∧ kb.length ≤ n) ∧ Keep w w' := by
  refine (RTakeText_c 1048576 ⟨by decide, by decide⟩ w hs hnc hn).mono ?_
  rintro r w' ⟨v, rfl, hM, hk⟩
  have hl := hs.len
  have hb := cnt_bdT 1048576 l
  obtain ⟨A', c', rfl, hc', hs'⟩ := hM.slF KB_flat w.heap.size (fun _ h => h)
  refine ⟨A', c', told (pText 1048576 l) [], (cnt (pText 1048576 l) n).toNat, code (pText 1048576 l), ?_, hc', hs', code_1, fun h => ?_, hk⟩
  · rw [Int.toNat_of_nonneg (by rw [← hl]; exact hb.1)]
  · obtain ⟨b, hb⟩ := code_0 (fun g => g h)
    obtain ⟨k, h1, h2, h3⟩ := pText_drop hb
    have h4 := pText_fst hb
    rw [← hl, h1, Int.toNat_natCast]
    exact ⟨b.2, by rw [hb]; rfl, h2, h3, by rw [hb]; show b.1.length ≤ _; omega⟩
theorem RFK_c {lo hi : Nat} {A : Option Addr} {n c : Nat} {l : List UInt8} (w : World) (hs : Sl KB lo hi w A n l) (hnc : n ≤ c) (hn : n ≤ 1000000) : Ret Tryz.prog 116 #[.slice A n c] w fun r w' => ∃ (A' : Option Addr) (c' : Nat) (t : List VAL) (e : Int), r = .tuple #[.slice A' t.length c', .int .i64 e] ∧ t.length ≤ c' ∧ Sl KV w.heap.size w'.heap.size w' A' t.length t ∧ (e ≠ 0 → pFrom l = none) ∧ (e = 0 → pFrom l = some t) ∧ Keep w w' := by
  refine (RFromKey_c w hs hnc hn).mono ?_
  rintro r w' ⟨v, rfl, hM, hk⟩
  obtain ⟨A', c', rfl, hc', hs'⟩ := hM.slF KV_flat w.heap.size (fun _ h => h)
  refine ⟨A', c', _, _, rfl, hc', hs', fun h => ?_, fun h => ?_, hk⟩
  · cases hq : pFrom l with
    | none => rfl
    | some t => rw [hq] at h; exact absurd rfl h
  · cases hq : pFrom l with
    | none => rw [hq] at h; exact absurd h (by decide)
    | some t => rfl
theorem Rparts_c (all : Nat) (hall : all ≤ 1000000) {lo hi : Nat} {A : Option Addr} {n c : Nat} {xs : List UInt8} (w : World) (hs : Sl KB lo hi w A n xs) (hhi : hi ≤ w.heap.size) (hnc : n ≤ c) (hn : n ≤ 1000000) : Ret Tryz.prog 68 #[.slice A n c, .int .i64 (all : Int)] w fun r w' => (match idx3 all xs with
    | some (l, k) => ∃ A' c', r = .tuple #[.agg #[.slice A' l.length c', .int .i64 (k : Int)], .bool true] ∧ l.length ≤ c' ∧ LfS w.heap.size w'.heap.size w' A' l.length l
    | none => ∃ a1 a2 a3 k, r = .tuple #[.agg #[.slice a1 a2 a3, .int .i64 k], .bool false]) ∧ Keep w w' := by
 have hsl := hs.len
 refine X.enter Zf68 rfl Tryz.ntmps68 rfl<|Zs<|Zr<|Zc (X.allocE Zv71 rfl) rfl ?_
 rintro _ w1 ⟨rfl, hB1, hk1, hz1⟩
 refine Zoa rfl rfl<|Ze<|Zs<|Zr<|Zc (X.allocE Zv71 rfl) rfl ?_
 rintro _ w2 ⟨rfl, hB2, hk2, hz2⟩
 refine Ze<|Zs<|Zr<|Zoms rfl rfl<|Zc (X.callE (RTN_c _ (hs.keep (hk1.trans hk2)) Zz Zz) Zc112 rfl rfl) rfl ?_
 rintro _ w3 ⟨t1, k1, e1, rfl, ht1, hE1, hZ1, hk3⟩
 have hk3' := hk3.size
 refine Zom rfl rfl<|Zo (X.extr rfl rfl) rfl<|Zo (X.extr rfl rfl) rfl<|Zo (X.extr rfl rfl) rfl<|Zoau rfl rfl<|Zoai rfl rfl<|Zoai rfl rfl<|Ze<|Zs<|Zs<|Zr<|Zomi rfl rfl<|X.opP X.wN rfl rfl (X.neI rfl rfl) (fun h29 => ?_) (fun h29 => ?_)
 ·
  refine Ze<|Zt rfl<|Zs<|Zr<|Zo (X.loadNB Zi71 Zs71 (hB2.keep hk3) rfl rfl rfl) rfl<|Zc (X.storeNE Zs71 (hB1.keep (hk2.trans hk3)) rfl rfl rfl rfl (fun u hu => by simp at hu; rcases hu with rfl | rfl <;> rfl)) rfl ?_
  rintro _ w4 ⟨hB4, hx4, hz4⟩
  refine Zoa rfl rfl<|Ze ?_
  refine X.ret_unw (X.unwR2 Zf68 Zr68 (X.ResOk.cell rfl (X.lvN Zi71 Zs71 hB4 rfl)) (show X.ResOk _ _ _ (.tmp 5) (.bool _) from rfl) ?_)
  have hN : idx3 all xs = none := by exact idx_g (hE1 h29)
  rw [hN]
  exact ⟨⟨_, _, _, _, rfl⟩, (((hk1.trans hk2).trans hk3).step hx4 zq11)⟩
 ·obtain ⟨_, hz1, rfl, hl1, hp1⟩ := hZ1 (Classical.byContradiction h29)
  refine Ze<|Zf rfl<|Zk<|Zs<|Zr<|Zoms rfl rfl<|Zomi rfl rfl<|Zo (X.cutL Zu43 Zs5 rfl rfl Zz) rfl<|Zoas rfl rfl<|Ze<|Zs<|Zr<|Zoms rfl rfl<|Zc (X.callE (RTN_c _ ((hs.drop k1 c Zz Zz).keep ((hk1.trans hk2).trans hk3)) Zz Zz) Zc112 rfl rfl) rfl ?_
  rintro _ w5 ⟨t2, k2, e2, rfl, ht2, hE2, hZ2, hk5⟩
  have hk5' := hk5.size
  refine Zom rfl rfl<|Zo (X.extr rfl rfl) rfl<|Zo (X.extr rfl rfl) rfl<|Zo (X.extr rfl rfl) rfl<|Zoau rfl rfl<|Zoai rfl rfl<|Zoai rfl rfl<|Ze<|Zs<|Zs<|Zr<|Zomi rfl rfl<|X.opP X.wN rfl rfl (X.neI rfl rfl) (fun h41 => ?_) (fun h41 => ?_)
  ·
   refine Zomt rfl rfl<|Zp rfl rfl rfl<|Zp rfl rfl rfl<|Zo (ZdTt rfl rfl) rfl<|Ze<|Zt rfl<|Zs<|Zr<|Zo (X.loadNB Zi71 Zs71 (hB2.keep (hk3.trans hk5)) rfl rfl rfl) rfl<|Zc (X.storeNE Zs71 (hB1.keep ((hk2.trans hk3).trans hk5)) rfl rfl rfl rfl (fun u hu => by simp at hu; rcases hu with rfl | rfl <;> rfl)) rfl ?_
   rintro _ w6 ⟨hB6, hx6, hz6⟩
   refine Zoa rfl rfl<|Ze ?_
   refine X.ret_unw (X.unwR2 Zf68 Zr68 (X.ResOk.cell rfl (X.lvN Zi71 Zs71 hB6 rfl)) (show X.ResOk _ _ _ (.tmp 5) (.bool _) from rfl) ?_)
   have hN : idx3 all xs = none := by exact idx_h (z := (t1, _)) hz1 (hE2 h41)
   rw [hN]
   exact ⟨⟨_, _, _, _, rfl⟩, ((((hk1.trans hk2).trans hk3).trans hk5).step hx6 zq11)⟩
  ·obtain ⟨_, hz2, rfl, hl2, hp2⟩ := hZ2 (Classical.byContradiction h41)
   refine Zomf rfl rfl<|Zg (Zdmu rfl) rfl rfl rfl rfl<|X.opP (X.wG rfl rfl rfl) rfl rfl (X.gtr rfl rfl) (fun h44 => ?_) (fun h44 => ?_)
   ·
    refine Zo (ZdFt rfl rfl) rfl<|Ze<|Zt rfl<|Zs<|Zr<|Zo (X.loadNB Zi71 Zs71 (hB2.keep (hk3.trans hk5)) rfl rfl rfl) rfl<|Zc (X.storeNE Zs71 (hB1.keep ((hk2.trans hk3).trans hk5)) rfl rfl rfl rfl (fun u hu => by simp at hu; rcases hu with rfl | rfl <;> rfl)) rfl ?_
    rintro _ w7 ⟨hB7, hx7, hz7⟩
    refine Zoa rfl rfl<|Ze ?_
    refine X.ret_unw (X.unwR2 Zf68 Zr68 (X.ResOk.cell rfl (X.lvN Zi71 Zs71 hB7 rfl)) (show X.ResOk _ _ _ (.tmp 5) (.bool _) from rfl) ?_)
    have hN : idx3 all xs = none := by exact idx_i (z := (t1, _)) (y := (t2, _)) hz1 hz2 Zz
    rw [hN]
    exact ⟨⟨_, _, _, _, rfl⟩, ((((hk1.trans hk2).trans hk3).trans hk5).step hx7 zq11)⟩
   ·refine Zo (ZdFf rfl rfl) rfl<|Ze<|Zf rfl<|Zk<|Zs<|Zr<|Zoms rfl rfl<|Zomi rfl rfl<|Zo (X.cutL Zu43 Zs5 rfl rfl Zz) rfl<|Zoas rfl rfl<|Ze<|Zs<|Zr<|Zomu rfl rfl<|Zo (X.cvI Zu119 Zu3 rfl (X.w_i64 Zz)) rfl<|Zo (X.fldB (j := 1) Zu71 rfl rfl Zs3 rfl) rfl<|Zc (X.storeE Zs3 (hB2.keep (hk3.trans hk5)) rfl rfl rfl rfl) rfl ?_
    rintro _ w8 ⟨hB8, hx8, hz8⟩
    refine Ze<|Zs<|Zr<|Zoa rfl rfl<|Ze<|Zs<|Zs<|Zr<|Zoa rfl rfl<|Ze<|Zb ?_
    have hE3 : idx3 all xs = (parts all t1 0 none ((xs.drop k1).drop k2)).map fun l => (l, t2) := idx_j (z := (t1, _)) (y := (t2, _)) hz1 hz2 Zz
    clear hE1 hZ1 hE2 hZ2 h29 h41
    have hs0 := (((hs.drop k1 c Zz Zz).drop k2 (c - k1) Zz Zz).keep ((((hk1.trans hk2).trans hk3).trans hk5).step hx8 zq11))
    refine X.loopL (σ := Nat × Nat × Value × Option Addr × Nat × Nat × List UInt8) (fun s => [(0, .slice s.2.2.2.1 s.2.2.2.2.1 s.2.2.2.2.2.1), (1, .int .i64 (all : Int)), (4, .pointer (some ⟨w.heap.size, 0, none⟩)), (6, .pointer (some ⟨w1.heap.size, 0, none⟩)), (7, .int .u64 (t1 : Int)), (11, .int .i64 (s.2.1 : Int)), (12, .int .u64 (s.1 : Int))]) (fun s w' => s.1 ≤ t1 ∧ s.2.1 ≤ all ∧ Keep w w' ∧ Blk w' w.heap.size [.slice none 0 0, .int .i64 0] 71 ∧ Blk w' w1.heap.size [s.2.2.1, .int .i64 (t2 : Int)] 71 ∧ s.2.2.2.2.1 = s.2.2.2.2.2.2.length ∧ s.2.2.2.2.1 ≤ s.2.2.2.2.2.1 ∧ w8.heap.size ≤ w'.heap.size ∧ Sl KB lo hi w' s.2.2.2.1 s.2.2.2.2.1 s.2.2.2.2.2.2 ∧ ∃ L l S G, NRow NdLf 76 w8.heap.size w'.heap.size S G w' s.2.2.1 L l ∧ l.length + s.2.2.2.2.1 ≤ 1000000 ∧ idx3 all xs = ((parts all (t1 - s.1) s.2.1 (lastT l) s.2.2.2.2.2.2).map (l ++ ·)).map fun l => (l, t2)) (fun s => t1 - s.1) (0, 0, .slice none 0 0, _, _, _, (xs.drop k1).drop k2) ⟨rfl, rfl, rfl, rfl, rfl, rfl, rfl, trivial⟩ ⟨Nat.zero_le _, Nat.zero_le _, ((((hk1.trans hk2).trans hk3).trans hk5).step hx8 zq11), (hB1.keep (((hk2.trans hk3).trans hk5).step hx8 zq11)), hB8, by (try dsimp only); exact hs0.len.symm, by (try dsimp only); omega, by (try dsimp only); omega, hs0, [], [], _, _, NRow.nil _ _ _ _ (Nat.le_refl _), by (try dsimp only); simp only [List.length_nil]; omega, by (try dsimp only); rw [hE3, Nat.sub_zero]; exact map_nil⟩ ?_
    rintro ⟨i, a, v, A9, n9, c9, x9⟩ b w1 ⟨hi0, ha, hk, hB4, hB6, h9l, h9c, hbs, hs9, L, l, S, G, hNR, hll, hE⟩ hback
    dsimp only
    dsimp only at hi0 ha hB6 h9l h9c hs9 hNR hll hE
    have hk0 := hk.size
    obtain ⟨Av, cv, rfl, hcv, hsv⟩ := hNR.rd
    refine Zs<|Zs<|Zr<|Zomu rfl rfl<|Zomu rfl rfl<|X.opP X.wN rfl rfl (X.lss rfl rfl) (fun h55 => ?_) (fun h55 => ?_)
    ·obtain ⟨k, hki⟩ : ∃ k, t1 - i = k + 1 := ⟨t1 - i - 1, by omega⟩
     refine Ze<|Zt rfl<|Zk<|Zs<|Zb<|Zs<|Zr<|Zoms rfl rfl<|Zc (X.callE (RTN_c _ hs9 Zz Zz) Zc112 rfl rfl) rfl ?_
     rintro _ w9 ⟨t3, k3, e3, rfl, ht3, hE3, hZ3, hk9⟩
     have hk9' := hk9.size
     refine Zom rfl rfl<|Zo (X.extr rfl rfl) rfl<|Zo (X.extr rfl rfl) rfl<|Zo (X.extr rfl rfl) rfl<|Zoau rfl rfl<|Zoai rfl rfl<|Zoai rfl rfl<|Ze<|Zs<|Zs<|Zr<|Zomi rfl rfl<|X.opP X.wN rfl rfl (X.neI rfl rfl) (fun h65 => ?_) (fun h65 => ?_)
     ·
      refine Zomt rfl rfl<|Zp rfl rfl rfl<|Zp rfl rfl rfl<|Zp rfl rfl rfl<|Zp rfl rfl rfl<|Zp rfl rfl rfl<|Zp rfl rfl rfl<|Zo (ZdTt rfl rfl) rfl<|Ze<|Zt rfl<|Zs<|Zr<|Zo (X.loadNB Zi71 Zs71 (hB6.keep hk9) rfl rfl rfl) rfl<|Zc (X.storeNE Zs71 (hB4.keep hk9) rfl rfl rfl rfl (fun u hu => by simp at hu; rcases hu with rfl | rfl <;> rfl)) rfl ?_
      rintro _ w10 ⟨hB10, hx10, hz10⟩
      refine Zoa rfl rfl<|Ze ?_
      refine X.ret_unw (X.unwR2 Zf68 Zr68 (X.ResOk.cell rfl (X.lvN Zi71 Zs71 hB10 rfl)) (show X.ResOk _ _ _ (.tmp 5) (.bool _) from rfl) ?_)
      have hN : idx3 all xs = none := by rw [hE, hki, parts_1 (hE3 h65)]; rfl
      rw [hN]
      exact ⟨⟨_, _, _, _, rfl⟩, ((hk.trans hk9).step hx10 zq11)⟩
     ·obtain ⟨_, hz3, rfl, hl3, hp3⟩ := hZ3 (Classical.byContradiction h65)
      clear hE3 hZ3 h65
      refine Zomf rfl rfl<|Zg (Zdmu rfl) rfl rfl rfl rfl<|Zg (Zdmi rfl) rfl rfl rfl rfl<|Zg (Zdmi rfl) rfl rfl rfl rfl<|Zg (X.sub (c := ((all - a : Nat) : Int)) rfl rfl (by rw [X.w_i64 Zz]; omega)) rfl rfl rfl rfl ?_
      refine Zg (X.cvI Zu3 Zu119 rfl (X.w_u64 Zz)) rfl rfl rfl rfl<|X.opP (X.wG rfl rfl rfl) rfl rfl (X.gtr rfl rfl) (fun h72 => ?_) (fun h72 => ?_)
      ·
       refine Zo (ZdFt rfl rfl) rfl<|Ze<|Zt rfl<|Zs<|Zr<|Zo (X.loadNB Zi71 Zs71 (hB6.keep hk9) rfl rfl rfl) rfl<|Zc (X.storeNE Zs71 (hB4.keep hk9) rfl rfl rfl rfl (fun u hu => by simp at hu; rcases hu with rfl | rfl <;> rfl)) rfl ?_
       rintro _ w11 ⟨hB11, hx11, hz11⟩
       refine Zoa rfl rfl<|Ze ?_
       refine X.ret_unw (X.unwR2 Zf68 Zr68 (X.ResOk.cell rfl (X.lvN Zi71 Zs71 hB11 rfl)) (show X.ResOk _ _ _ (.tmp 5) (.bool _) from rfl) ?_)
       have hN : idx3 all xs = none := by rw [hE, hki]; cases h5 : pText 1048576 (x9.drop k3) with
         | none => rw [parts_2 (z := (t3, _)) hz3 h5]; rfl
         | some y => cases h6 : pFrom y.1 with
           | none => rw [parts_3 (z := (t3, _)) hz3 h5 h6]; rfl
           | some t => rw [parts_4 (z := (t3, _)) hz3 h5 h6 (.inl (by simp only []; omega))]; rfl
       rw [hN]
       exact ⟨⟨_, _, _, _, rfl⟩, ((hk.trans hk9).step hx11 zq11)⟩
      ·refine Zo (ZdFf rfl rfl) rfl<|Ze<|Zf rfl<|Zk<|Zs<|Zr<|Zoms rfl rfl<|Zomi rfl rfl<|Zo (X.cutL Zu43 Zs5 rfl rfl Zz) rfl<|Zc (X.callE (RTT_c _ ((hs9.drop k3 c9 Zz Zz).keep hk9) Zz Zz) Tryz.call115 rfl rfl) rfl ?_
       rintro _ w12 ⟨A4, c4, kb, k4, e4, rfl, hc4, hs4, hE4, hZ4, hk12⟩
       have hk12' := hk12.size
       refine Zom rfl rfl<|Zo (X.extr rfl rfl) rfl<|Zo (X.extr rfl rfl) rfl<|Zo (X.extr rfl rfl) rfl<|Zoas rfl rfl<|Zoai rfl rfl<|Zoai rfl rfl<|Ze<|Zs<|Zs<|Zr<|Zomi rfl rfl<|X.opP X.wN rfl rfl (X.neI rfl rfl) (fun h84 => ?_) (fun h84 => ?_)
       ·
        refine Ze<|Zt rfl<|Zs<|Zr<|Zo (X.loadNB Zi71 Zs71 (hB6.keep (hk9.trans hk12)) rfl rfl rfl) rfl<|Zc (X.storeNE Zs71 (hB4.keep (hk9.trans hk12)) rfl rfl rfl rfl (fun u hu => by simp at hu; rcases hu with rfl | rfl <;> rfl)) rfl ?_
        rintro _ w13 ⟨hB13, hx13, hz13⟩
        refine Zoa rfl rfl<|Ze ?_
        refine X.ret_unw (X.unwR2 Zf68 Zr68 (X.ResOk.cell rfl (X.lvN Zi71 Zs71 hB13 rfl)) (show X.ResOk _ _ _ (.tmp 5) (.bool _) from rfl) ?_)
        have hN : idx3 all xs = none := by rw [hE, hki, parts_2 (z := (t3, _)) hz3 (hE4 h84)]; rfl
        rw [hN]
        exact ⟨⟨_, _, _, _, rfl⟩, (((hk.trans hk9).trans hk12).step hx13 zq11)⟩
       ·obtain ⟨_, hz4, rfl, hl4, hkb⟩ := hZ4 (Classical.byContradiction h84)
        clear hE4 hZ4 h84
        refine Ze<|Zf rfl<|Zk<|Zs<|Zr<|Zoms rfl rfl<|Zc (X.callE (RFK_c _ hs4 Zz Zz) Tryz.call116 rfl rfl) rfl ?_
        rintro _ w14 ⟨A5, c5, t, e5, rfl, hc5, hs5, hE5, hZ5, hk14⟩
        have hk14' := hk14.size
        refine Zom rfl rfl<|Zo (X.extr rfl rfl) rfl<|Zo (X.extr rfl rfl) rfl<|Zoas rfl rfl<|Zoai rfl rfl<|Ze<|Zs<|Zr<|Zo (X.fldB (j := 0) Zu71 rfl rfl Zs69 rfl) rfl<|Zo (X.load1B Zi69 (hB6.keep ((hk9.trans hk12).trans hk14)) rfl rfl) rfl<|Zo (X.lenSl Zu69 rfl) rfl<|Zo (X.sub rfl rfl (X.w_i64 Zz)) rfl<|Zoai rfl rfl<|Ze<|Zs<|Zs<|Zr<|Zomi rfl rfl<|X.opP X.wN rfl rfl (X.neI rfl rfl) (fun h96 => ?_) (fun h96 => ?_)
        ·
         refine Zomt rfl rfl<|Zp rfl rfl rfl<|Zp rfl rfl rfl<|Zp rfl rfl rfl<|Zu rfl rfl rfl<|Zu rfl rfl rfl<|Zu rfl rfl rfl<|Zu rfl rfl rfl<|Zu rfl rfl rfl<|Zu rfl rfl rfl<|Zu rfl rfl rfl<|Zu rfl rfl rfl<|Zu rfl rfl rfl<|Zp rfl rfl rfl<|Zo (ZdTt rfl rfl) rfl<|Ze<|Zt rfl<|Zs<|Zr<|Zo (X.loadNB Zi71 Zs71 (hB6.keep ((hk9.trans hk12).trans hk14)) rfl rfl rfl) rfl<|Zc (X.storeNE Zs71 (hB4.keep ((hk9.trans hk12).trans hk14)) rfl rfl rfl rfl (fun u hu => by simp at hu; rcases hu with rfl | rfl <;> rfl)) rfl ?_
         rintro _ w15 ⟨hB15, hx15, hz15⟩
         refine Zoa rfl rfl<|Ze ?_
         refine X.ret_unw (X.unwR2 Zf68 Zr68 (X.ResOk.cell rfl (X.lvN Zi71 Zs71 hB15 rfl)) (show X.ResOk _ _ _ (.tmp 5) (.bool _) from rfl) ?_)
         have hN : idx3 all xs = none := by rw [hE, hki, parts_3 (z := (t3, _)) hz3 hz4 (hE5 h96)]; rfl
         rw [hN]
         exact ⟨⟨_, _, _, _, rfl⟩, ((((hk.trans hk9).trans hk12).trans hk14).step hx15 zq11)⟩
        ·have hz5 := hZ5 (Classical.byContradiction h96)
         clear hE5 hZ5 h96
         refine Zomf rfl rfl<|Zg (Zdmi rfl) rfl rfl rfl rfl<|X.opP (X.wG rfl rfl rfl) rfl rfl (X.geq rfl rfl) (fun h99 => ?_) (fun h99 => ?_)
         ·obtain ⟨xl, hxl⟩ : ∃ xl, L[l.length - 1]? = some xl := ⟨_, List.getElem?_eq_getElem (by rw [hNR.d.1]; omega)⟩
          obtain ⟨ql, hql, u1, u2, u3, loq, hiq, u4, hqs⟩ := hNR.d.2 _ _ hxl
          clear u1 u2 u3 u4
          have hla := last_at hql
          have hxl' : L[((l.length : Int) - 1).toNat]? = some xl := by rw [show ((l.length : Int) - 1).toNat = l.length - 1 by omega]; exact hxl
          refine Zg (Zdmt rfl) rfl rfl rfl rfl<|Zg (X.fldB (j := 0) Zu71 rfl rfl Zs69 rfl) rfl rfl rfl rfl<|Zg (X.load1B Zi69 (hB6.keep ((hk9.trans hk12).trans hk14)) rfl rfl) rfl rfl rfl rfl<|Zg (Zdmi rfl) rfl rfl rfl rfl<|Zg (X.idxS (hsv.keep ((hk9.trans hk12).trans hk14)) Zu69 Zs76 rfl rfl ⟨by omega, by omega⟩) rfl rfl rfl rfl<|Zg (X.fldA Zu76 rfl rfl Tryz.sizeOf38) rfl rfl rfl rfl<|Zg (X.loadSf (o := 2) Tryz.isAgg38 (hsv.keep ((hk9.trans hk12).trans hk14)) hxl' rfl (fun _ h => by rw [h.1]; rfl)) rfl rfl rfl rfl ?_
          refine Zg (Zdms rfl) rfl rfl rfl rfl<|X.opE (X.wG rfl rfl rfl) rfl (X.callE (R02Compare_c _ (hqs.keep ((hk9.trans hk12).trans hk14)) hs5) Tryz.call17 rfl rfl) ?_
          rintro _ w16 ⟨rfl, hk16⟩
          have hk16' := hk16.size
          refine X.opP (X.wG rfl rfl rfl) rfl rfl (X.geq rfl rfl) (fun h109 => ?_) (fun h109 => ?_)
          ·
           refine Zg (ZdTt rfl rfl) rfl rfl rfl rfl<|Zo (ZdFt rfl rfl) rfl<|Ze<|Zt rfl<|Zs<|Zr<|Zo (X.loadNB Zi71 Zs71 (hB6.keep (((hk9.trans hk12).trans hk14).trans hk16)) rfl rfl rfl) rfl<|Zc (X.storeNE Zs71 (hB4.keep (((hk9.trans hk12).trans hk14).trans hk16)) rfl rfl rfl rfl (fun u hu => by simp at hu; rcases hu with rfl | rfl <;> rfl)) rfl ?_
           rintro _ w17 ⟨hB17, hx17, hz17⟩
           refine Zoa rfl rfl<|Ze ?_
           refine X.ret_unw (X.unwR2 Zf68 Zr68 (X.ResOk.cell rfl (X.lvN Zi71 Zs71 hB17 rfl)) (show X.ResOk _ _ _ (.tmp 5) (.bool _) from rfl) ?_)
           have hN : idx3 all xs = none := by rw [hE, hki, parts_4 (z := (t3, _)) hz3 hz4 hz5 (.inr (by rw [hla]; exact decide_eq_true h109))]; rfl
           rw [hN]
           exact ⟨⟨_, _, _, _, rfl⟩, (((((hk.trans hk9).trans hk12).trans hk14).trans hk16).step hx17 zq11)⟩
          ·have hbad : ¬ badL (lastT l) t = true := by rw [hla]; exact fun h => h109 (of_decide_eq_true h)
           clear h109
           refine Zg (ZdTf rfl rfl) rfl rfl rfl rfl<|Zo (ZdFf rfl rfl) rfl<|Ze<|Zf rfl<|Zk<|Zs<|Zr<|Zo (X.fldB (j := 0) Zu71 rfl rfl Zs69 rfl) rfl<|Zo (X.load1B Zi69 (hB6.keep (((hk9.trans hk12).trans hk14).trans hk16)) rfl rfl) rfl<|Zomi rfl rfl<|Zomu rfl rfl<|Zo (X.cvI Zu119 Zu3 rfl (X.w_i64 Zz)) rfl<|Zoms rfl rfl<|Zo (X.buildB (vs := [(0, .int .i64 (a : Int)), (1, .int .i64 (t3 : Int)), (2, .slice A5 t.length c5)]) (cs := #[.int .i64 (a : Int), .int .i64 (t3 : Int), .slice A5 t.length c5]) rfl Zl) rfl<|Zc (X.litKF KLf_flat (K := KLf) (xs := [Operand.tmp 119]) (vs := [evLf (a, t3, (A5, t.length, c5))]) (ys := [(a, t3, (A5, t.length, c5))]) Zu69 Zs76 Tryz.zeroValue76 rfl rfl rfl rfl rfl (repsLf _)) rfl ?_
           rintro _ w18 ⟨rfl, hs18, hB18, hk18, hz18⟩
           refine Zc (NRow.app (y := (a, t3, (A5, t.length, c5))) (q := (a, t3, t)) (hNR.keep ((((hk9.trans hk12).trans hk14).trans hk16).trans hk18)) hs18 ⟨rfl, rfl, hc5, _, _, fun _ h1 h2 => ⟨h1, h2⟩, hs5.keep (hk16.trans hk18)⟩ Zz Zz Zz Zu69 EPl rfl rfl Zz) rfl ?_
           rintro _ w19 ⟨Aq, cq, S', G', rfl, hNn, hx19⟩
           have hx19' := hx19.size
           refine Zo (X.fldB (j := 0) Zu71 rfl rfl Zs69 rfl) rfl<|Zc (X.storeE Zs69 ((hB6.keep ((((hk9.trans hk12).trans hk14).trans hk16).trans hk18)).ext hx19 zq1) rfl rfl rfl rfl) rfl ?_
           rintro _ w20 ⟨hB20, hx20, hz20⟩
           refine Ze<|Zs<|Zr<|Zomi rfl rfl<|Zomu rfl rfl<|Zo (X.cvI Zu119 Zu3 rfl (X.w_i64 Zz)) rfl<|Zo (X.add (c := ((a + t3 : Nat) : Int)) rfl rfl (by rw [X.w_i64 Zz]; omega)) rfl ?_
           refine Zoai rfl rfl<|Ze<|Zr<|Zoms rfl rfl<|Zomi rfl rfl<|Zomi rfl rfl<|Zo (X.add (c := ((k3 + k4 : Nat) : Int)) rfl rfl (by rw [X.w_i64 Zz]; omega)) rfl ?_
           refine Zo (X.cutL Zu43 Zs5 rfl rfl Zz) rfl<|Zoas rfl rfl<|Ze<|Zi<|Zr<|Zomu rfl rfl<|Zo (X.add (c := ((i + 1 : Nat) : Int)) rfl rfl (by rw [X.w_u64 Zz]; omega)) rfl ?_
           refine Zoau rfl rfl<|Ze ?_
           refine hback (i + 1, a + t3, .slice Aq (l ++ [(a, t3, t)]).length cq, _, _, _, x9.drop (k3 + k4)) _ _ ⟨rfl, rfl, rfl, rfl, rfl, rfl, rfl, trivial⟩ ⟨by (try dsimp only); omega, by (try dsimp only); omega, (((((((hk.trans hk9).trans hk12).trans hk14).trans hk16).trans hk18).step hx19 zq11).step hx20 zq11), (((hB4.keep ((((hk9.trans hk12).trans hk14).trans hk16).trans hk18)).ext hx19 zq1).ext hx20 zq1), hB20, ?_, ?_, by (try dsimp only); omega, ((((hs9.drop (k3 + k4) c9 Zz Zz).keep ((((hk9.trans hk12).trans hk14).trans hk16).trans hk18)).ext hx19 zq1).ext hx20 zq1), L ++ [_], l ++ [(a, t3, t)], S', G', ((hNn.ext hx20 zq1)).all, ?_, ?_⟩ ?_
           ·(try dsimp only); rw [List.length_drop]; omega
           ·(try dsimp only); omega
           ·(try dsimp only); rw [List.length_append, List.length_singleton]; omega
           ·(try dsimp only); rw [hE, hki, parts_5 (z := (t3, _)) hz3 hz4 hz5 (by intro hh; rcases hh with hh | hh; omega; exact hbad hh), map_snoc, lastT_snoc, show t1 - (i + 1) = k by omega, List.drop_drop]
           ·(try dsimp only); omega
         ·have hbad : ¬ badL (lastT l) t = true := by rw [last_nil Zz]; exact fun h => by cases h
          refine Zg (Zdmf rfl) rfl rfl rfl rfl<|Zp rfl rfl rfl<|Zp rfl rfl rfl<|Zp rfl rfl rfl<|Zp rfl rfl rfl<|Zp rfl rfl rfl<|Zp rfl rfl rfl<|Zp rfl rfl rfl<|Zp rfl rfl rfl<|Zp rfl rfl rfl<|Zg (ZdFf rfl rfl) rfl rfl rfl rfl<|Zo (ZdFf rfl rfl) rfl<|Ze<|Zf rfl<|Zk<|Zs<|Zr<|Zo (X.fldB (j := 0) Zu71 rfl rfl Zs69 rfl) rfl<|Zo (X.load1B Zi69 (hB6.keep ((hk9.trans hk12).trans hk14)) rfl rfl) rfl<|Zomi rfl rfl<|Zomu rfl rfl<|Zo (X.cvI Zu119 Zu3 rfl (X.w_i64 Zz)) rfl<|Zoms rfl rfl<|Zo (X.buildB (vs := [(0, .int .i64 (a : Int)), (1, .int .i64 (t3 : Int)), (2, .slice A5 t.length c5)]) (cs := #[.int .i64 (a : Int), .int .i64 (t3 : Int), .slice A5 t.length c5]) rfl Zl) rfl<|Zc (X.litKF KLf_flat (K := KLf) (xs := [Operand.tmp 119]) (vs := [evLf (a, t3, (A5, t.length, c5))]) (ys := [(a, t3, (A5, t.length, c5))]) Zu69 Zs76 Tryz.zeroValue76 rfl rfl rfl rfl rfl (repsLf _)) rfl ?_
          rintro _ w21 ⟨rfl, hs21, hB21, hk21, hz21⟩
          refine Zc (NRow.app (y := (a, t3, (A5, t.length, c5))) (q := (a, t3, t)) (hNR.keep (((hk9.trans hk12).trans hk14).trans hk21)) hs21 ⟨rfl, rfl, hc5, _, _, fun _ h1 h2 => ⟨h1, h2⟩, hs5.keep hk21⟩ Zz Zz Zz Zu69 EPl rfl rfl Zz) rfl ?_
          rintro _ w22 ⟨Aq, cq, S', G', rfl, hNn, hx22⟩
          have hx22' := hx22.size
          refine Zo (X.fldB (j := 0) Zu71 rfl rfl Zs69 rfl) rfl<|Zc (X.storeE Zs69 ((hB6.keep (((hk9.trans hk12).trans hk14).trans hk21)).ext hx22 zq1) rfl rfl rfl rfl) rfl ?_
          rintro _ w23 ⟨hB23, hx23, hz23⟩
          refine Ze<|Zs<|Zr<|Zomi rfl rfl<|Zomu rfl rfl<|Zo (X.cvI Zu119 Zu3 rfl (X.w_i64 Zz)) rfl<|Zo (X.add (c := ((a + t3 : Nat) : Int)) rfl rfl (by rw [X.w_i64 Zz]; omega)) rfl ?_
          refine Zoai rfl rfl<|Ze<|Zr<|Zoms rfl rfl<|Zomi rfl rfl<|Zomi rfl rfl<|Zo (X.add (c := ((k3 + k4 : Nat) : Int)) rfl rfl (by rw [X.w_i64 Zz]; omega)) rfl ?_
          refine Zo (X.cutL Zu43 Zs5 rfl rfl Zz) rfl<|Zoas rfl rfl<|Ze<|Zi<|Zr<|Zomu rfl rfl<|Zo (X.add (c := ((i + 1 : Nat) : Int)) rfl rfl (by rw [X.w_u64 Zz]; omega)) rfl ?_
          refine Zoau rfl rfl<|Ze ?_
          refine hback (i + 1, a + t3, .slice Aq (l ++ [(a, t3, t)]).length cq, _, _, _, x9.drop (k3 + k4)) _ _ ⟨rfl, rfl, rfl, rfl, rfl, rfl, rfl, trivial⟩ ⟨by (try dsimp only); omega, by (try dsimp only); omega, ((((((hk.trans hk9).trans hk12).trans hk14).trans hk21).step hx22 zq11).step hx23 zq11), (((hB4.keep (((hk9.trans hk12).trans hk14).trans hk21)).ext hx22 zq1).ext hx23 zq1), hB23, ?_, ?_, by (try dsimp only); omega, ((((hs9.drop (k3 + k4) c9 Zz Zz).keep (((hk9.trans hk12).trans hk14).trans hk21)).ext hx22 zq1).ext hx23 zq1), L ++ [_], l ++ [(a, t3, t)], S', G', ((hNn.ext hx23 zq1)).all, ?_, ?_⟩ ?_
          ·(try dsimp only); rw [List.length_drop]; omega
          ·(try dsimp only); omega
          ·(try dsimp only); rw [List.length_append, List.length_singleton]; omega
          ·(try dsimp only); rw [hE, hki, parts_5 (z := (t3, _)) hz3 hz4 hz5 (by intro hh; rcases hh with hh | hh; omega; exact hbad hh), map_snoc, lastT_snoc, show t1 - (i + 1) = k by omega, List.drop_drop]
          ·(try dsimp only); omega
    ·refine Ze<|Zf rfl<|Zx rfl<|Zs<|Zr<|Zo (X.loadNB Zi71 Zs71 hB6 rfl rfl rfl) rfl<|Zoms rfl rfl<|Zo (X.lenSl Zu43 rfl) rfl<|X.opP X.wN rfl rfl (X.eqI rfl rfl) (fun h135 => ?_) (fun h135 => ?_)
     ·refine Zomt rfl rfl<|Zg (Zdmi rfl) rfl rfl rfl rfl<|Zg (Zdmi rfl) rfl rfl rfl rfl<|Zg (X.eqI rfl rfl) rfl rfl rfl rfl<|Zo (ZdTo rfl rfl) rfl<|Zc (X.storeNE Zs71 hB4 rfl rfl rfl rfl (fun u hu => by simp at hu; rcases hu with rfl | rfl <;> rfl)) rfl ?_
      rintro _ w24 ⟨hB24, hx24, hz24⟩
      refine Zoao rfl rfl<|Ze ?_
      refine X.ret_unw (X.unwR2 Zf68 Zr68 (X.ResOk.cell rfl (X.lvN Zi71 Zs71 hB24 rfl)) (show X.ResOk _ _ _ (.tmp 5) (.bool _) from rfl) ?_)
      by_cases hal : a = all
      ·have hfin : idx3 all xs = some (l, t2) := by
         rw [hE, show t1 - i = 0 by omega, parts, if_pos ⟨List.eq_nil_of_length_eq_zero Zz, hal⟩]; simp
       rw [hfin]
       obtain ⟨Az, cz, ez, hcz, hLz⟩ := nrow_lf ((hNR.ext hx24 zq1))
       injection ez with ez1 ez2 ez3
       subst ez1 ez3
       obtain ⟨L', g1, g2⟩ := hLz
       exact ⟨⟨_, _, by rw [decide_eq_true Zz]; rfl, hcz, L', g1.wide Zz Zz, Nd.All.mono g2 fun q hq => ⟨by have := hq.1; omega, by have := hq.2; omega⟩⟩, (hk.step hx24 zq11)⟩
      ·have hN : idx3 all xs = none := by rw [hE, show t1 - i = 0 by omega, parts, if_neg (fun h => hal h.2)]; rfl
       rw [hN]
       exact ⟨⟨_, _, _, _, by rw [decide_eq_false Zz]; rfl⟩, (hk.step hx24 zq11)⟩
     ·refine Zomf rfl rfl<|Zp rfl rfl rfl<|Zp rfl rfl rfl<|Zp rfl rfl rfl<|Zo (ZdFf rfl rfl) rfl<|Zc (X.storeNE Zs71 hB4 rfl rfl rfl rfl (fun u hu => by simp at hu; rcases hu with rfl | rfl <;> rfl)) rfl ?_
      rintro _ w25 ⟨hB25, hx25, hz25⟩
      refine Zoaf rfl rfl<|Ze ?_
      refine X.ret_unw (X.unwR2 Zf68 Zr68 (X.ResOk.cell rfl (X.lvN Zi71 Zs71 hB25 rfl)) (show X.ResOk _ _ _ (.tmp 5) (.bool _) from rfl) ?_)
      have hN : idx3 all xs = none := by rw [hE, show t1 - i = 0 by omega, parts, if_neg (fun h => by rw [h.1] at h9l; simp at h9l; omega)]; rfl
      rw [hN]
      exact ⟨⟨_, _, _, _, rfl⟩, (hk.step hx25 zq11)⟩
def leH : List UInt8 → Nat
  | [] => 0
  | c :: l => leH l * 256 + c.toNat
theorem leH_4 {t : List UInt8} (h : t.length = 4) : leH t = le4 t := by
  obtain ⟨a, b, c, d, rfl⟩ := list4 h
  simp only [leH, le4, List.getD_cons_zero, List.getD_cons_succ]; omega
theorem leH_le : ∀ {l : List UInt8}, l.length ≤ 4 → leH l ≤ 4294967295
  | [], _ => by simp [leH]
  | [a], _ => by have := a.toNat_lt; simp only [leH]; omega
  | [a, b], _ => by have := a.toNat_lt; have := b.toNat_lt; simp only [leH]; omega
  | [a, b, c], _ => by have := a.toNat_lt; have := b.toNat_lt; have := c.toNat_lt; simp only [leH]; omega
  | [a, b, c, d], _ => by have := a.toNat_lt; have := b.toNat_lt; have := c.toNat_lt; have := d.toNat_lt; simp only [leH]; omega
  | _ :: _ :: _ :: _ :: _ :: l, h => by simp only [List.length_cons] at h; omega
theorem leH_at {l : List UInt8} {i : Nat} {c : UInt8} (h : l[i]? = some c) : leH (l.drop i) = leH (l.drop (i + 1)) * 256 + c.toNat := by
  obtain ⟨h1, h2⟩ := List.getElem?_eq_some_iff.1 h
  rw [List.drop_eq_getElem_cons h1, h2, leH]
theorem RRI_c {lo hi : Nat} {A : Option Addr} {n c : Nat} {xs : List UInt8} (w : World) (hs : Sl KB lo hi w A n xs) (hhi : hi ≤ w.heap.size) (hnc : n ≤ c) (hn : n ≤ 1000000) : Ret Tryz.prog 29 #[.slice A n c] w fun r w' => (match idxP xs with
    | some (l, k) => ∃ A' c', r = .tuple #[.agg #[.slice A' l.length c', .int .i64 (k : Int)], .bool true] ∧ l.length ≤ c' ∧ LfS w.heap.size w'.heap.size w' A' l.length l
    | none => ∃ a1 a2 a3 k, r = .tuple #[.agg #[.slice a1 a2 a3, .int .i64 k], .bool false]) ∧ Keep w w' := by
 have hsl := hs.len
 refine X.enter Zf29 rfl Tryz.ntmps29 rfl<|Zs<|Zr<|Zc (X.allocE Zv71 rfl) rfl ?_
 rintro _ w1 ⟨rfl, hB1, hk1, hz1⟩
 refine Zoa rfl rfl<|Ze<|Zs<|Zr<|Zc (X.allocE Zv71 rfl) rfl ?_
 rintro _ w2 ⟨rfl, hB2, hk2, hz2⟩
 refine Ze<|Zs<|Zs<|Zr<|Zoms rfl rfl<|Zo (X.lenSl Zu43 rfl) rfl<|X.opP X.wN rfl rfl (X.lss rfl rfl) (fun h14 => ?_) (fun h14 => ?_)
 ·
  refine Ze<|Zt rfl<|Zs<|Zr<|Zo (X.loadNB Zi71 Zs71 hB2 rfl rfl rfl) rfl<|Zc (X.storeNE Zs71 (hB1.keep hk2) rfl rfl rfl rfl (fun u hu => by simp at hu; rcases hu with rfl | rfl <;> rfl)) rfl ?_
  rintro _ w3 ⟨hB3, hx3, hz3⟩
  refine Zoa rfl rfl<|Ze ?_
  refine X.ret_unw (X.unwR2 Zf29 Zr29 (X.ResOk.cell rfl (X.lvN Zi71 Zs71 hB3 rfl)) (show X.ResOk _ _ _ (.tmp 3) (.bool _) from rfl) ?_)
  have hN9 : idxP xs = none := by exact idx_a Zz
  rw [hN9]
  exact ⟨⟨_, _, _, _, rfl⟩, ((hk1.trans hk2).step hx3 zq11)⟩
 ·refine Ze<|Zf rfl<|Zk<|Zs<|Zr<|Zoms rfl rfl<|Zoms rfl rfl<|Zo (X.lenSl Zu43 rfl) rfl<|Zo (X.sub (c := ((n - 8 : Nat) : Int)) rfl rfl (by rw [X.w_i64 Zz]; omega)) rfl ?_
  refine Zo (X.cutL Zu43 Zs5 rfl rfl Zz) rfl<|Zc (X.callE (ROpen_c _ ((hs.drop (n - 8) c Zz Zz).keep (hk1.trans hk2)) Zz Zz) Tryz.call67 rfl rfl) rfl ?_
  rintro _ w4 ⟨v4, rfl, hF4⟩
  obtain ⟨Ao1, co1, rfl, hco1, hso1, hk4⟩ := open_sl hF4
  have hk4' := hk4.size
  refine Zom rfl rfl<|Zo (X.extr rfl rfl) rfl<|Zo (X.extr rfl rfl) rfl<|Zoas rfl rfl<|Zoai rfl rfl<|Ze<|Zs<|Zs<|Zr<|Zomi rfl rfl<|X.opP X.wN rfl rfl (X.neI rfl rfl) (fun h26 => ?_) (fun h26 => ?_)
  ·
   refine Ze<|Zt rfl<|Zs<|Zr<|Zo (X.loadNB Zi71 Zs71 (hB2.keep hk4) rfl rfl rfl) rfl<|Zc (X.storeNE Zs71 (hB1.keep (hk2.trans hk4)) rfl rfl rfl rfl (fun u hu => by simp at hu; rcases hu with rfl | rfl <;> rfl)) rfl ?_
   rintro _ w5 ⟨hB5, hx5, hz5⟩
   refine Zoa rfl rfl<|Ze ?_
   refine X.ret_unw (X.unwR2 Zf29 Zr29 (X.ResOk.cell rfl (X.lvN Zi71 Zs71 hB5 rfl)) (show X.ResOk _ _ _ (.tmp 3) (.bool _) from rfl) ?_)
   have hN9 : idxP xs = none := by subst hsl; exact idx_b Zz h26
   rw [hN9]
   exact ⟨⟨_, _, _, _, rfl⟩, (((hk1.trans hk2).trans hk4).step hx5 zq11)⟩
  ·have ho1 := Classical.byContradiction h26
   obtain ⟨g1, g2⟩ := open_len ho1
   have hT4 : (openC (xs.drop (n - 8))).2.length = 4 := by rw [g2, List.length_take, List.length_drop]; omega
   have hE1 : idxP xs = idx2 xs (openC (xs.drop (n - 8))).2 := by subst hsl; exact idx_c Zz ho1
   refine Ze<|Zf rfl<|Zk<|Zs<|Zr<|Zoa rfl rfl<|Ze<|Zs<|Zs<|Zr<|Zoa rfl rfl<|Ze<|Zb ?_
   have hKI := ((hk1.trans hk2).trans hk4)
   have hB2I := (hB1.keep (hk2.trans hk4))
   have hB4I := (hB2.keep hk4)
   have hoI := hso1
   refine X.loopL (σ := Nat × Nat) (fun s => [(0, .slice A n c), (2, .pointer (some ⟨w.heap.size, 0, none⟩)), (4, .pointer (some ⟨w1.heap.size, 0, none⟩)), (5, .slice Ao1 (openC (xs.drop (n - 8))).2.length co1), (7, .int .i64 (s.2 : Int)), (8, .int .i64 ((s.1 : Int) - 1))]) (fun s w' => s.1 ≤ 4 ∧ s.2 = leH ((openC (xs.drop (n - 8))).2.drop s.1) ∧ Keep w4 w') (fun s => s.1) (4, 0) ⟨rfl, rfl, rfl, rfl, rfl, rfl, trivial⟩ ⟨Nat.le_refl _, by (try dsimp only); rw [List.drop_of_length_le Zz]; rfl, Keep.refl _⟩ ?_
   rintro ⟨j, N⟩ b wo ⟨hj, hN, hkE⟩ hback
   dsimp only at hj hN
   have hk0 := hkE.size
   have hNb := leH_le (l := (openC (xs.drop (n - 8))).2.drop j) (by rw [List.length_drop]; omega)
   rw [← hN] at hNb
   have hkW := hKI.trans hkE
   refine Zs<|Zs<|Zr<|Zomi rfl rfl<|X.opP X.wN rfl rfl (X.geq rfl rfl) (fun h29 => ?_) (fun h29 => ?_)
   ·obtain ⟨y, hy⟩ : ∃ y, (openC (xs.drop (n - 8))).2[j - 1]? = some y := ⟨_, List.getElem?_eq_getElem Zz⟩
    have hy' : (openC (xs.drop (n - 8))).2[((j : Int) - 1).toNat]? = some y := by rw [show ((j : Int) - 1).toNat = j - 1 by omega]; exact hy
    have hyl := y.toNat_lt
    have hyn := leH_at hy
    rw [show j - 1 + 1 = j by omega, ← hN] at hyn
    refine Ze<|Zt rfl<|Zk<|Zs<|Zb<|Zr<|Zomi rfl rfl<|Zo (X.mul rfl rfl (X.w_i64 Zz)) rfl<|Zoms rfl rfl<|Zomi rfl rfl<|Zo (X.idxS (hoI.keep hkE) Zu43 Zs5 rfl rfl ⟨by omega, by omega⟩) rfl<|Zo (X.loadS Zi5 (hoI.keep hkE) hy' rfl (fun _ h => by rw [h.1]; rfl)) rfl ?_
    refine Zo (X.cvI Zu5 Zu3 rfl (X.w_i64 Zz)) rfl<|Zo (X.add (c := ((N * 256 + y.toNat : Nat) : Int)) rfl rfl (by rw [X.w_i64 Zz]; omega)) rfl ?_
    refine Zoai rfl rfl<|Ze<|Zi<|Zr<|Zomi rfl rfl<|Zo (X.sub (c := ((j - 1 : Nat) : Int) - 1) rfl rfl (by rw [X.w_i64 Zz]; omega)) rfl ?_
    refine Zoai rfl rfl<|Ze ?_
    refine hback (j - 1, N * 256 + y.toNat) _ _ ⟨rfl, rfl, rfl, rfl, rfl, rfl, trivial⟩ ⟨by (try dsimp only); omega, by (try dsimp only); rw [hyn], hkE⟩ (by (try dsimp only); omega)
   ·have hj0 : j = 0 := by omega
    subst hj0
    rw [List.drop_zero, leH_4 hT4] at hN
    refine Ze<|Zf rfl<|Zx rfl<|Zs<|Zs<|Zr<|Zomi rfl rfl<|Zoms rfl rfl<|Zo (X.lenSl Zu43 rfl) rfl<|Zo (X.sub (c := ((n - 8 : Nat) : Int)) rfl rfl (by rw [X.w_i64 Zz]; omega)) rfl ?_
    refine X.opP X.wN rfl rfl (X.gtr rfl rfl) (fun h44 => ?_) (fun h44 => ?_)
    ·
     refine Ze<|Zt rfl<|Zs<|Zr<|Zo (X.loadNB Zi71 Zs71 (hB4I.keep hkE) rfl rfl rfl) rfl<|Zc (X.storeNE Zs71 (hB2I.keep hkE) rfl rfl rfl rfl (fun u hu => by simp at hu; rcases hu with rfl | rfl <;> rfl)) rfl ?_
     rintro _ w6 ⟨hB6, hx6, hz6⟩
     refine Zoa rfl rfl<|Ze ?_
     refine X.ret_unw (X.unwR2 Zf29 Zr29 (X.ResOk.cell rfl (X.lvN Zi71 Zs71 hB6 rfl)) (show X.ResOk _ _ _ (.tmp 3) (.bool _) from rfl) ?_)
     have hN9 : idxP xs = none := by rw [hE1]; exact idx_d (by rw [← hN, hsl]; omega)
     rw [hN9]
     exact ⟨⟨_, _, _, _, rfl⟩, (hkW.step hx6 zq11)⟩
    ·refine Ze<|Zf rfl<|Zk<|Zs<|Zr<|Zoms rfl rfl<|Zo (X.lenSl Zu43 rfl) rfl<|Zo (X.sub (c := ((n - 8 : Nat) : Int)) rfl rfl (by rw [X.w_i64 Zz]; omega)) rfl ?_
     refine Zomi rfl rfl<|Zo (X.sub (c := ((n - 8 - N : Nat) : Int)) rfl rfl (by rw [X.w_i64 Zz]; omega)) rfl ?_
     refine Zoai rfl rfl<|Ze<|Zs<|Zr<|Zoms rfl rfl<|Zomi rfl rfl<|Zomi rfl rfl<|Zomi rfl rfl<|Zo (X.add (c := ((n - 8 - N + N : Nat) : Int)) rfl rfl (by rw [X.w_i64 Zz]; omega)) rfl ?_
     refine Zo (X.cutLH Zu43 Zs5 rfl rfl rfl Zz) rfl<|Zc (X.callE (ROpen_c _ (((hs.keep hkW).take (n - 8 - N + N) Zz).drop (n - 8 - N) c Zz Zz) Zz Zz) Tryz.call67 rfl rfl) rfl ?_
     rintro _ w7 ⟨v7, rfl, hF7⟩
     obtain ⟨Ao2, co2, rfl, hco2, hso2, hk7⟩ := open_sl hF7
     have hk7' := hk7.size
     refine Zom rfl rfl<|Zo (X.extr rfl rfl) rfl<|Zo (X.extr rfl rfl) rfl<|Zoas rfl rfl<|Zoai rfl rfl<|Ze<|Zs<|Zs<|Zr<|Zomi rfl rfl<|X.opP X.wN rfl rfl (X.neI rfl rfl) (fun h62 => ?_) (fun h62 => ?_)
     ·
      refine Ze<|Zt rfl<|Zs<|Zr<|Zo (X.loadNB Zi71 Zs71 ((hB4I.keep hkE).keep hk7) rfl rfl rfl) rfl<|Zc (X.storeNE Zs71 ((hB2I.keep hkE).keep hk7) rfl rfl rfl rfl (fun u hu => by simp at hu; rcases hu with rfl | rfl <;> rfl)) rfl ?_
      rintro _ w8 ⟨hB8, hx8, hz8⟩
      refine Zoa rfl rfl<|Ze ?_
      refine X.ret_unw (X.unwR2 Zf29 Zr29 (X.ResOk.cell rfl (X.lvN Zi71 Zs71 hB8 rfl)) (show X.ResOk _ _ _ (.tmp 3) (.bool _) from rfl) ?_)
      have hN9 : idxP xs = none := by rw [hE1]; subst hsl; subst hN; exact idx_e Zz h62
      rw [hN9]
      exact ⟨⟨_, _, _, _, rfl⟩, ((hkW.trans hk7).step hx8 zq11)⟩
     ·have ho2 := Classical.byContradiction h62
      obtain ⟨g3, g4⟩ := open_len ho2
      have hx0 : (openC ((xs.take (n - 8 - N + N)).drop (n - 8 - N))).2.length ≤ 1000000 := by rw [g4, List.length_take, List.length_drop, List.length_take]; omega
      refine Ze<|Zf rfl<|Zk<|Zs<|Zr<|Zoms rfl rfl<|Zomi rfl rfl<|Zc (X.callE (Rparts_c (n - 8 - N) Zz _ hso2 Zz Zz Zz) Tryz.call68 rfl rfl) rfl ?_
      rintro vp w9 ⟨hpm, hk9⟩
      have hvp : ∃ b1 b2 b3 b4 b5, vp = .tuple #[.agg #[.slice b1 b2 b3, .int .i64 b4], .bool b5] := by
        revert hpm
        cases idx3 (n - 8 - N) (openC ((xs.take (n - 8 - N + N)).drop (n - 8 - N))).2 with
        | none => rintro ⟨a1, a2, a3, k, rfl⟩; exact ⟨_, _, _, _, _, rfl⟩
        | some p => rintro ⟨A, c, rfl, _⟩; exact ⟨_, _, _, _, _, rfl⟩
      obtain ⟨b1, b2, b3, b4, b5, rfl⟩ := hvp
      have hk9' := hk9.size
      refine Zo (X.extr rfl rfl) rfl<|Zo (X.extr rfl rfl) rfl<|Zc (X.storeNE Zs71 ((hB2I.keep hkE).keep (hk7.trans hk9)) rfl rfl rfl rfl (fun u hu => by simp at hu; rcases hu with rfl | rfl <;> rfl)) rfl ?_
      rintro _ w10 ⟨hB10, hx10, hz10⟩
      refine Zoao rfl rfl<|Ze ?_
      refine X.ret_unw (X.unwR2 Zf29 Zr29 (X.ResOk.cell rfl (X.lvN Zi71 Zs71 hB10 rfl)) (show X.ResOk _ _ _ (.tmp 3) (.bool _) from rfl) ?_)
      have hE2 : idxP xs = idx3 (n - 8 - N) (openC ((xs.take (n - 8 - N + N)).drop (n - 8 - N))).2 := by
        rw [hE1]; subst hsl; subst hN; exact idx_f Zz (Classical.byContradiction h62)
      rw [hE2]
      refine ⟨?_, (((hkW.trans hk7).trans hk9).step hx10 zq11)⟩
      revert hpm
      cases idx3 (n - 8 - N) (openC ((xs.take (n - 8 - N + N)).drop (n - 8 - N))).2 with
      | none => rintro ⟨a1, a2, a3, k, e⟩; injection e with e; cases e; exact ⟨_, _, _, _, rfl⟩
      | some p =>
        rintro ⟨A', c', e, hc, L', g1, g2⟩
        injection e with e; cases e
        have hL9 : LfS _ _ _ _ _ _ := ⟨L', g1, g2⟩
        have hL8 := hL9.ext hx10 (fun q g1 g2 g3 => by have g3 : q = _ := g3; omega)
        obtain ⟨L7, f1, f2⟩ := hL8
        exact ⟨_, _, rfl, hc, L7, f1.wide Zz Zz, Nd.All.mono f2 fun q hq => ⟨by have := hq.1; omega, by have := hq.2; omega⟩⟩
theorem moreC_app (r : R32) (a b : List UInt8) : moreC r (a ++ b) = moreC (moreC r a) b := List.foldl_append
theorem xor4 (a b c d : R32) : (a ^^^ b) ^^^ (c ^^^ d) = (a ^^^ c) ^^^ (b ^^^ d) := by
  rw [BitVec.xor_assoc, BitVec.xor_assoc, ← BitVec.xor_assoc b, BitVec.xor_comm b c, BitVec.xor_assoc c]
theorem ones_xor (x : R32) : ~~~ x = x ^^^ BitVec.allOnes 32 := by rw [BitVec.xor_allOnes]
theorem st1_0 : st1 0#32 = 0#32 := by decide
theorem st1_inj0 {r : R32} (h : st1 r = 0#32) : r = 0#32 := by
  unfold st1 at h
  by_cases hb : r.getLsbD 0 = true
  · rw [if_pos hb] at h
    have h2 : ((r >>> 1) ^^^ poly).getLsbD 31 = (0#32).getLsbD 31 := by rw [h]
    rw [BitVec.getLsbD_xor, BitVec.getLsbD_ushiftRight] at h2
    have hp : poly.getLsbD 31 = true := by decide
    rw [hp, BitVec.getLsbD_of_ge r (1 + 31) Zz] at h2
    simp at h2
  · rw [if_neg hb] at h
    apply BitVec.eq_of_getLsbD_eq
    intro i hi
    by_cases h0 : i = 0
    · subst h0; simpa using hb
    · have h2 : (r >>> 1).getLsbD (i - 1) = (0#32).getLsbD (i - 1) := by rw [h]
      rw [BitVec.getLsbD_ushiftRight, show 1 + (i - 1) = i by omega] at h2
      rw [h2]; simp
theorem stN_0 (k : Nat) : stN k 0#32 = 0#32 := by
  induction k with
  | zero => rfl
  | succ k ih => rw [stN, st1_0, ih]
theorem stN_inj0 (k : Nat) : ∀ {r : R32}, stN k r = 0#32 → r = 0#32 := by
  induction k with
  | zero => intro r h; exact h
  | succ k ih => intro r h; exact st1_inj0 (ih h)
theorem moreC_xor : ∀ (l m : List UInt8) (r s : R32), l.length = m.length → moreC (r ^^^ s) (List.zipWith (· ^^^ ·) l m) = moreC r l ^^^ moreC s m
  | [], [], _, _, _ => rfl
  | a :: l, b :: m, r, s, h => by
    have e : C32 (a ^^^ b) = C32 a ^^^ C32 b := by
      apply BitVec.eq_of_getLsbD_eq
      intro i hi
      rw [C32_at, BitVec.getLsbD_xor, C32_at, C32_at, UInt8.toNat_xor, Nat.testBit_xor]
      simp [hi]
    show moreC (byteC (r ^^^ s) (a ^^^ b)) (List.zipWith (· ^^^ ·) l m) = moreC (byteC r a) l ^^^ moreC (byteC s b) m
    rw [byte_st, byte_st, byte_st, e, ← moreC_xor l m _ _ (by simpa using h), ← stN_xor]
    congr 2
    rw [BitVec.xor_assoc, ← BitVec.xor_assoc s, BitVec.xor_comm s (C32 a), BitVec.xor_assoc, BitVec.xor_assoc]
  | [], _ :: _, _, _, h => by simp at h
  | _ :: _, [], _, _, h => by simp at h
/-! ### single bits -/
def bitR (b : Bool) : R32 := if b then 1#32 else 0#32
def bitsR (r : R32) (l : List Bool) : R32 := l.foldl (fun r b => st1 (r ^^^ bitR b)) r
def bits8 (c : UInt8) : List Bool := (List.range 8).map fun k => c.toNat.testBit k
theorem bitsR_app (r : R32) (a b : List Bool) : bitsR r (a ++ b) = bitsR (bitsR r a) b := List.foldl_append
theorem bitR_K (c : UInt8) (k : Nat) : bitR (c.toNat.testBit k) = bitK c k := by
  apply BitVec.eq_of_toNat_eq
  rw [bitK, and1, CK_toNat, Nat.testBit, Nat.shiftRight_eq_div_pow]
  unfold bitR
  have h : 1 &&& c.toNat / 2 ^ k = c.toNat / 2 ^ k % 2 := by rw [Nat.and_comm]; exact Nat.and_two_pow_sub_one_eq_mod (c.toNat / 2 ^ k) 1
  rw [h]
  rcases Nat.mod_two_eq_zero_or_one (c.toNat / 2 ^ k) with e | e <;> rw [e] <;> rfl
theorem byte_bits (r : R32) (c : UInt8) : byteC r c = bitsR r (bits8 c) := by
  have h : ∀ k, k ≤ 8 → stN (8 - k) (bitsR r ((List.range k).map fun k => c.toNat.testBit k) ^^^ CK c k) = byteC r c := by
    intro k
    induction k with
    | zero => intro _; exact bits_first r c
    | succ k ih =>
      intro hk
      have := bits_next _ _ c k Zz (ih Zz)
      rw [rstep_st _ _ (bit_lt c k)] at this
      rw [List.range_succ, List.map_append, bitsR_app]
      show stN (8 - (k + 1)) (st1 (_ ^^^ bitR (c.toNat.testBit k)) ^^^ CK c (k + 1)) = _
      rw [bitR_K]; exact this
  exact (bits_last (h 8 (Nat.le_refl _))).symm
theorem more_bits : ∀ (l : List UInt8) (r : R32), moreC r l = bitsR r (l.flatMap bits8)
  | [], _ => rfl
  | c :: l, r => by rw [List.flatMap_cons, bitsR_app, ← byte_bits, ← more_bits l]; rfl
def numB32 : List Bool → R32
  | [] => 0#32
  | b :: l => bitR b ^^^ (numB32 l <<< 1)
theorem numB_lt_crc : ∀ (l : List Bool), l.length ≤ 32 → (numB32 l).toNat < 2 ^ l.length
  | [], _ => by decide
  | b :: l, h => by
    have ih := numB_lt_crc l (by simp at h; omega)
    simp only [List.length_cons] at h ⊢
    have hp : 2 ^ l.length ≤ 2 ^ 31 := Nat.pow_le_pow_right (by decide) Zz
    have h1 : (numB32 l <<< 1).toNat < 2 ^ (l.length + 1) := by
      rw [BitVec.toNat_shiftLeft, Nat.shiftLeft_eq, Nat.pow_succ]
      exact Nat.lt_of_le_of_lt (Nat.mod_le _ _) Zz
    have h2 : (bitR b).toNat < 2 ^ (l.length + 1) := by
      have : (bitR b).toNat ≤ 1 := by cases b <;> decide
      have : 2 ^ 1 ≤ 2 ^ (l.length + 1) := Nat.pow_le_pow_right (by decide) Zz
      omega
    show (bitR b ^^^ (numB32 l <<< 1)).toNat < _
    rw [BitVec.toNat_xor]; exact Nat.xor_lt_two_pow h2 h1
theorem bits_num : ∀ (l : List Bool) (r : R32), l.length ≤ 32 → bitsR r l = stN l.length (r ^^^ numB32 l)
  | [], r, _ => by rw [numB32, BitVec.xor_zero]; rfl
  | b :: l, r, h => by
    have hl : l.length ≤ 31 := by simp at h; omega
    show bitsR (st1 (r ^^^ bitR b)) l = _
    rw [bits_num l _ Zz]
    show _ = stN l.length (st1 (r ^^^ (bitR b ^^^ (numB32 l <<< 1))))
    have hlt := numB_lt_crc l Zz
    have hp : 2 ^ l.length ≤ 2 ^ 31 := Nat.pow_le_pow_right (by decide) hl
    have e : (numB32 l <<< 1).toNat = (numB32 l).toNat * 2 := by
      rw [BitVec.toNat_shiftLeft, Nat.shiftLeft_eq]; omega
    have e2 : st1 (numB32 l <<< 1) = numB32 l := by
      apply BitVec.eq_of_toNat_eq
      rw [st1_even Zz, e]; omega
    rw [← BitVec.xor_assoc, st1_xor (r ^^^ bitR b), e2]
theorem numB_ne : ∀ (l : List Bool), l.length ≤ 32 → true ∈ l → numB32 l ≠ 0#32
  | [], _, h => by cases h
  | b :: l, hl, h => by
    intro h0
    have hl2 : l.length ≤ 31 := by simp at hl; omega
    have hlt := numB_lt_crc l Zz
    have hp : 2 ^ l.length ≤ 2 ^ 31 := Nat.pow_le_pow_right (by decide) hl2
    have e : (numB32 l <<< 1).toNat = (numB32 l).toNat * 2 := by
      rw [BitVec.toNat_shiftLeft, Nat.shiftLeft_eq]; omega
    have h1 : bitR b = numB32 l <<< 1 := by
      have h2 : bitR b ^^^ (numB32 l <<< 1) = 0#32 := h0
      have := congrArg (· ^^^ (numB32 l <<< 1)) h2
      simpa [BitVec.xor_assoc] using this
    cases b with
    | true =>
      have := congrArg BitVec.toNat h1
      rw [e] at this
      have h3 : (bitR true).toNat = 1 := by decide
      omega
    | false =>
      have := congrArg BitVec.toNat h1
      rw [e] at this
      have h3 : (bitR false).toNat = 0 := by decide
      have h4 : numB32 l = 0#32 := BitVec.eq_of_toNat_eq (by simp; omega)
      exact numB_ne l Zz (by simpa using h) h4
theorem bits_zeros : ∀ (n : Nat) (r : R32), bitsR r (List.replicate n false) = stN n r
  | 0, _ => rfl
  | n + 1, r => by
    show bitsR (st1 (r ^^^ bitR false)) (List.replicate n false) = _
    rw [bits_zeros n, show bitR false = 0#32 from rfl, BitVec.xor_zero]; rfl
theorem burst (a c : Nat) (b : List Bool) (hb : b.length ≤ 32) (ht : true ∈ b) : bitsR 0#32 (List.replicate a false ++ b ++ List.replicate c false) ≠ 0#32 := by
  rw [bitsR_app, bitsR_app, bits_zeros a 0#32, stN_0, bits_num b _ hb, BitVec.zero_xor, bits_zeros c]
  intro h
  exact numB_ne b hb ht (stN_inj0 _ (stN_inj0 _ h))
abbrev XO (l e : List UInt8) : List UInt8 := List.zipWith (· ^^^ ·) l e
def bitAt (e : List UInt8) (j : Nat) : Bool := (e.getD (j / 8) 0).toNat.testBit (j % 8)
def Burst (e : List UInt8) (f k : Nat) (t : Bool) : Prop := (∀ j, bitAt e j = true → f ≤ j ∧ j < f + k) ∧ (t = true ↔ ∃ j, bitAt e j = true)
theorem bitAt_lt {e : List UInt8} {j : Nat} (h : bitAt e j = true) : j < 8 * e.length := by
  by_cases hj : j / 8 < e.length
  · omega
  · exfalso
    unfold bitAt at h
    rw [List.getD_eq_getElem?_getD, List.getElem?_eq_none Zz] at h
    simp at h
theorem bits8_get (c : UInt8) (i : Nat) (hi : i < 8) : (bits8 c)[i]? = some (c.toNat.testBit i) := by
  unfold bits8
  rw [List.getElem?_map, List.getElem?_range hi]; rfl
theorem flat_bits : ∀ (e : List UInt8) (j : Nat), j < 8 * e.length → (e.flatMap bits8)[j]? = some (bitAt e j)
  | [], j, h => by simp at h
  | c :: e, j, h => by
    rw [List.flatMap_cons]
    have hl : (bits8 c).length = 8 := by simp [bits8]
    by_cases hj : j < 8
    · rw [List.getElem?_append_left Zz, bits8_get c j hj]
      simp only [bitAt, show j / 8 = 0 by omega, show j % 8 = j by omega]; rfl
    · rw [List.getElem?_append_right Zz, hl, flat_bits e (j - 8) (by simp at h; omega)]
      simp only [bitAt, show j / 8 = (j - 8) / 8 + 1 by omega, show j % 8 = (j - 8) % 8 by omega]; rfl
theorem flat_len_crc (e : List UInt8) : (e.flatMap bits8).length = 8 * e.length := by
  induction e with
  | nil => rfl
  | cons c e ih => rw [List.flatMap_cons, List.length_append, ih]; simp [bits8]; omega
theorem all_false {l : List Bool} (h : ∀ b ∈ l, b = false) : l = List.replicate l.length false := List.eq_replicate_iff.2 ⟨rfl, h⟩
theorem burst_more {e : List UInt8} {f : Nat} (h : Burst e f 32 true) : moreC 0#32 e ≠ 0#32 := by
  obtain ⟨h1, h2⟩ := h
  obtain ⟨j0, hj0⟩ := h2.1 rfl
  rw [more_bits]
  have hL := flat_len_crc e
  have hb := flat_bits e
  generalize e.flatMap bits8 = L at hL hb ⊢
  have ht : L.take f = List.replicate (L.take f).length false := all_false fun b hb' => by
    obtain ⟨i, hi, rfl⟩ := List.mem_iff_getElem.1 hb'
    rw [List.length_take] at hi
    have := hb i Zz
    rw [List.getElem_take]
    rw [List.getElem?_eq_getElem Zz] at this
    cases hq : bitAt e i
    · rw [hq] at this; simpa using this
    · have := (h1 i hq).1; omega
  have hd : L.drop (f + 32) = List.replicate (L.drop (f + 32)).length false := all_false fun b hb' => by
    obtain ⟨i, hi, rfl⟩ := List.mem_iff_getElem.1 hb'
    rw [List.length_drop] at hi
    have := hb (f + 32 + i) Zz
    rw [List.getElem_drop]
    rw [List.getElem?_eq_getElem Zz] at this
    cases hq : bitAt e (f + 32 + i)
    · rw [hq] at this; simpa using this
    · have := (h1 _ hq).2; omega
  have hs : L = L.take f ++ (L.drop f).take 32 ++ L.drop (f + 32) := by
    rw [← List.drop_drop, List.append_assoc, List.take_append_drop, List.take_append_drop]
  rw [hs, ht, hd]
  refine burst _ _ _ (by rw [List.length_take]; omega) ?_
  obtain ⟨h3, h4⟩ := h1 j0 hj0
  have h5 := hb j0 (by have := bitAt_lt hj0; omega)
  rw [hj0] at h5
  refine List.mem_iff_getElem?.2 ⟨j0 - f, ?_⟩
  rw [List.getElem?_take, if_pos Zz, List.getElem?_drop, show f + (j0 - f) = j0 by omega]; exact h5
/-! ### the sealed bytes -/
theorem C32_shl (c : UInt8) (k : Nat) (hk : k ≤ 24) : stN k (C32 c <<< k) = C32 c := by
  have hc := c.toNat_lt
  have h1 : (C32 c).toNat = c.toNat := by rw [C32, BitVec.toNat_ofNat]; omega
  have hp : 2 ^ k ≤ 2 ^ 24 := Nat.pow_le_pow_right (by decide) hk
  have hlt : c.toNat * 2 ^ k < 2 ^ 32 := by
    have : c.toNat * 2 ^ k ≤ 255 * 2 ^ 24 := Nat.mul_le_mul Zz hp
    omega
  have h2 : (C32 c <<< k).toNat = c.toNat * 2 ^ k := by rw [BitVec.toNat_shiftLeft, h1, Nat.shiftLeft_eq, Nat.mod_eq_of_lt hlt]
  apply BitVec.eq_of_toNat_eq
  rw [stN_even k (by rw [h2]; exact Nat.mul_mod_left _ _), h2, h1, Nat.mul_div_cancel _ (Nat.two_pow_pos k)]
theorem num4_xor (a b c d : UInt8) : num4 a b c d = C32 a ^^^ (C32 b <<< 8) ^^^ (C32 c <<< 16) ^^^ (C32 d <<< 24) := by
  apply BitVec.eq_of_getLsbD_eq
  intro i hi
  have h8 : ∀ (c : UInt8) (j : Nat), 8 ≤ j → (C32 c).getLsbD j = false := by
    intro c j hj
    rw [C32_at, Nat.testBit_lt_two_pow (Nat.lt_of_lt_of_le c.toNat_lt (Nat.pow_le_pow_right (by decide) hj))]; simp
  simp only [num4, BitVec.getLsbD_or, BitVec.getLsbD_xor, BitVec.getLsbD_shiftLeft, hi, decide_true, Bool.true_and]
  by_cases h1 : i < 8
  · simp [h1, show i < 16 by omega, show i < 24 by omega]
  · by_cases h2 : i < 16
    · simp [h1, h2, h8 a i Zz, show i < 24 by omega]
    · by_cases h3 : i < 24
      · simp [h1, h2, h3, h8 a i Zz, h8 b (i - 8) Zz]
      · simp [h1, h2, h3, h8 a i Zz, h8 b (i - 8) Zz, h8 c (i - 16) Zz]
theorem more4 (r : R32) (a b c d : UInt8) : moreC r [a, b, c, d] = stN 32 (r ^^^ num4 a b c d) := by
  rw [num4_xor]
  show byteC (byteC (byteC (byteC r a) b) c) d = _
  rw [byte_st, byte_st, byte_st, byte_st]
  conv => lhs; rw [← C32_shl b 8 Zz]
  rw [← stN_xor, stN_add]
  conv => lhs; rw [← C32_shl c 16 Zz]
  rw [show 8 + 8 = 16 by rfl, ← stN_xor, stN_add]
  conv => lhs; rw [← C32_shl d 24 Zz]
  rw [show 16 + 8 = 24 by rfl, ← stN_xor, stN_add, BitVec.xor_assoc r, BitVec.xor_assoc r, BitVec.xor_assoc r]
theorem C32_xor (a b : UInt8) : C32 (a ^^^ b) = C32 a ^^^ C32 b := by
  apply BitVec.eq_of_getLsbD_eq
  intro i hi
  rw [C32_at, BitVec.getLsbD_xor, C32_at, C32_at, UInt8.toNat_xor, Nat.testBit_xor]
  simp [hi]
theorem num4_XO (a b c d x y z t : UInt8) : num4 (a ^^^ x) (b ^^^ y) (c ^^^ z) (d ^^^ t) = num4 a b c d ^^^ num4 x y z t := by
  simp only [num4_xor, C32_xor, BitVec.shiftLeft_xor_distrib]
  rw [xor4 (C32 a) (C32 x), xor4 (C32 a ^^^ C32 b <<< 8), xor4 (C32 a ^^^ C32 b <<< 8 ^^^ C32 c <<< 16)]
theorem sum_XO (l e : List UInt8) (h : l.length = e.length) : sumC (XO l e) = sumC l ^^^ moreC 0#32 e := by
  unfold sumC
  have := moreC_xor l e (BitVec.ofNat 32 4294967295) 0#32 h
  rw [BitVec.xor_zero] at this
  rw [this, ones_xor, ones_xor, BitVec.xor_assoc, BitVec.xor_assoc, BitVec.xor_comm (moreC 0#32 e)]
theorem open_burst (b e : List UInt8) {f : Nat} (he : e.length = (sealC b).length) (h : Burst e f 32 true) : (openC (XO (sealC b) e)).1 ≠ 0 := by
  intro h0
  have hsl := seal_len b
  have hel : e.length = b.length + 4 := by omega
  have hlen : (XO (sealC b) e).length = b.length + 4 := by rw [List.length_zipWith]; omega
  have ht : (XO (sealC b) e).take b.length = XO b (e.take b.length) := by rw [List.take_zipWith, sealC, List.take_left]
  have hd : (XO (sealC b) e).drop b.length = XO (lowC (sumC b)) (e.drop b.length) := by rw [List.drop_zipWith, sealC, List.drop_left]
  obtain ⟨x, y, z, t, tl, hx⟩ := (show ∃ x y z t tl, e.drop b.length = x :: y :: z :: t :: tl from by
    have hl : (e.drop b.length).length = 4 := by rw [List.length_drop]; omega
    match e.drop b.length, hl with
    | [x, y, z, t], _ => exact ⟨x, y, z, t, [], rfl⟩)
  have htl : tl = [] := by
    have hl : (e.drop b.length).length = 4 := by rw [List.length_drop]; omega
    rw [hx] at hl; simpa using hl
  subst htl
  rw [openC, if_neg Zz, show (XO (sealC b) e).length - 4 = b.length by omega, ht, hd, hx] at h0
  by_cases hq : sumC (XO b (e.take b.length)) = numC (XO (lowC (sumC b)) [x, y, z, t])
  · rw [sum_XO b _ (by rw [List.length_take]; omega)] at hq
    have h1 : numC (XO (lowC (sumC b)) [x, y, z, t]) = numC (lowC (sumC b)) ^^^ num4 x y z t := num4_XO _ _ _ _ _ _ _ _
    rw [h1, num_low] at hq
    have h2 : moreC 0#32 (e.take b.length) = num4 x y z t := by
      have := congrArg (sumC b ^^^ ·) hq
      simpa [← BitVec.xor_assoc] using this
    apply burst_more h
    have h3 : e = e.take b.length ++ [x, y, z, t] := by rw [← hx, List.take_append_drop]
    rw [h3, moreC_app, more4, h2, BitVec.xor_self, stN_0]
  · rw [if_neg hq] at h0; simp at h0
/-! ### a frame -/
theorem bitAt_take (e : List UInt8) (m j : Nat) : bitAt (e.take m) j = (decide (j < 8 * m) && bitAt e j) := by
  unfold bitAt
  rw [List.getD_eq_getElem?_getD, List.getElem?_take]
  by_cases h : j / 8 < m
  · simp [h, show j < 8 * m by omega, List.getD_eq_getElem?_getD]
  · simp [h, show ¬ j < 8 * m by omega]
theorem bitAt_drop (e : List UInt8) (m j : Nat) : bitAt (e.drop m) j = bitAt e (j + 8 * m) := by
  unfold bitAt
  rw [List.getD_eq_getElem?_getD, List.getElem?_drop, List.getD_eq_getElem?_getD, show m + j / 8 = (j + 8 * m) / 8 by omega, show j % 8 = (j + 8 * m) % 8 by omega]
theorem zero_of {e : List UInt8} (h : ∀ j, bitAt e j = false) : e = List.replicate e.length 0 := by
  refine List.eq_replicate_iff.2 ⟨rfl, fun c hc => ?_⟩
  obtain ⟨i, hi, rfl⟩ := List.mem_iff_getElem.1 hc
  apply UInt8.toNat_inj.1
  apply Nat.eq_of_testBit_eq
  intro k
  by_cases hk : k < 8
  · have := h (8 * i + k)
    unfold bitAt at this
    rw [show (8 * i + k) / 8 = i by omega, show (8 * i + k) % 8 = k by omega, List.getD_eq_getElem?_getD, List.getElem?_eq_getElem hi] at this
    simpa using this
  · rw [Nat.testBit_lt_two_pow (Nat.lt_of_lt_of_le (UInt8.toNat_lt _) (Nat.pow_le_pow_right (by decide) (show 8 ≤ k by omega)))]; simp
theorem XO_zero : ∀ (l : List UInt8), XO l (List.replicate l.length 0) = l
  | [] => rfl
  | a :: l => by
    show (a ^^^ 0) :: XO l (List.replicate l.length 0) = _
    rw [XO_zero l, UInt8.xor_zero]
theorem quo8 (a : Nat) (h : a ≤ 9223372036854775807) : IntKind.i64.wrap (((a : Nat) : Int).tdiv 8) = ((a / 8 : Nat) : Int) := by
  show IntKind.i64.wrap ((a / 8 : Nat) : Int) = _
  exact w_i64 Zz
theorem shl1 (k : Nat) (h : k < 8) : IntKind.u8.wrap (1 * 2 ^ (min ((k : Int)).toNat IntKind.u8.bits)) = ((UInt8.ofNat (2 ^ k)).toNat : Int) := by
  have : ∀ k : Fin 8, IntKind.u8.wrap (1 * 2 ^ (min ((k.1 : Int)).toNat IntKind.u8.bits)) = ((UInt8.ofNat (2 ^ k.1)).toNat : Int) := by decide
  exact this ⟨k, h⟩
theorem xor8_crc (a b : UInt8) : IntKind.u8.wrap ((BitVec.ofInt IntKind.u8.bits (a.toNat : Int) ^^^ BitVec.ofInt IntKind.u8.bits (b.toNat : Int)).toNat : Int) = ((a ^^^ b).toNat : Int) := by
  show IntKind.u8.wrap ((BitVec.ofInt 8 (a.toNat : Int) ^^^ BitVec.ofInt 8 (b.toNat : Int)).toNat : Int) = _
  have ha := a.toNat_lt
  have hb := b.toNat_lt
  rw [BitVec.ofInt_natCast, BitVec.ofInt_natCast, BitVec.toNat_xor, BitVec.toNat_ofNat, BitVec.toNat_ofNat, UInt8.toNat_xor, Nat.mod_eq_of_lt ha, Nat.mod_eq_of_lt hb]
  have := Nat.xor_lt_two_pow (n := 8) ha hb
  exact w_u8 Zz
def flipE (e : List UInt8) (j : Nat) : List UInt8 := e.set (j / 8) (e.getD (j / 8) 0 ^^^ UInt8.ofNat (2 ^ (j % 8)))
theorem flip_len (e : List UInt8) (j : Nat) : (flipE e j).length = e.length := by simp [flipE]
theorem pow_bit (k i : Nat) (hk : k < 8) : (UInt8.ofNat (2 ^ k)).toNat.testBit i = decide (i = k) := by
  have : (UInt8.ofNat (2 ^ k)).toNat = 2 ^ k := by
    have h8 : 2 ^ k < 2 ^ 8 := Nat.pow_lt_pow_right (by decide) hk
    rw [UInt8.toNat_ofNat']; exact Nat.mod_eq_of_lt h8
  rw [this, Nat.testBit_two_pow]; simp [eq_comm]
theorem flip_bit (e : List UInt8) (j0 j : Nat) (h : j0 < 8 * e.length) : bitAt (flipE e j0) j = (if j = j0 then !(bitAt e j) else bitAt e j) := by
  unfold bitAt flipE
  rw [List.getD_eq_getElem?_getD, List.getElem?_set]
  by_cases h1 : j0 / 8 = j / 8
  · rw [if_pos h1, if_pos Zz]
    simp only [Option.getD_some]
    rw [UInt8.toNat_xor, Nat.testBit_xor, pow_bit _ _ Zz, ← h1]
    by_cases h2 : j = j0
    · subst h2; simp
    · simp [h2, show ¬ j % 8 = j0 % 8 by omega]
  · rw [if_neg h1, if_neg (by rintro rfl; exact h1 rfl), List.getD_eq_getElem?_getD]
theorem burst_set {e : List UInt8} {f k : Nat} {t : Bool} (h : Burst e f k t) (hl : f + k < 8 * e.length) : Burst (flipE e (f + k)) f (k + 1) true := by
  have hz : bitAt e (f + k) = false := by
    cases hq : bitAt e (f + k)
    · rfl
    · have := (h.1 _ hq).2; omega
  refine ⟨fun j hj => ?_, by simp; exact ⟨f + k, by rw [flip_bit e _ _ hl, if_pos rfl, hz]; rfl⟩⟩
  rw [flip_bit e _ _ hl] at hj
  by_cases h1 : j = f + k
  · omega
  · rw [if_neg h1] at hj; have := h.1 j hj; omega
theorem burst_next {e : List UInt8} {f k : Nat} {t : Bool} (h : Burst e f k t) : Burst e f (k + 1) t := ⟨fun j hj => by have := h.1 j hj; omega, h.2⟩
theorem burst_32 {e : List UInt8} {f k : Nat} {t : Bool} (h : Burst e f k t) (hk : k ≤ 32) : Burst e f 32 t := ⟨fun j hj => by have := h.1 j hj; omega, h.2⟩
theorem burst_z (n f : Nat) : Burst (List.replicate n 0) f 0 false := by
  have : ∀ j, bitAt (List.replicate n 0) j = false := fun j => by
    unfold bitAt
    rw [List.getD_eq_getElem?_getD, List.getElem?_replicate]
    split <;> simp
  exact ⟨fun j hj => by rw [this] at hj; simp at hj, by simp [this]⟩
theorem XO_flip {l e : List UInt8} {j : Nat} {y : UInt8} (he : e.length = l.length) (hy : (XO l e)[j / 8]? = some y) : (XO l e).set (j / 8) (y ^^^ UInt8.ofNat (2 ^ (j % 8))) = XO l (flipE e j) := by
  have hj : j / 8 < (XO l e).length := (List.getElem?_eq_some_iff.1 hy).1
  rw [List.length_zipWith] at hj
  have hl : l[j / 8]? = some (l[j / 8]'Zz) := List.getElem?_eq_getElem Zz
  have hee : e[j / 8]? = some (e[j / 8]'Zz) := List.getElem?_eq_getElem Zz
  apply List.ext_getElem?
  intro i
  unfold flipE
  rw [List.getElem?_set, List.getElem?_zipWith, List.getElem?_zipWith, List.getElem?_set]
  by_cases h : j / 8 = i
  · subst h
    rw [if_pos rfl, if_pos (by rw [List.length_zipWith]; omega), if_pos rfl, if_pos Zz, hl]
    have h3 := hy
    rw [List.getElem?_zipWith, hl, hee] at h3
    simp only [Option.some.injEq] at h3
    rw [List.getD_eq_getElem?_getD, hee, ← h3]
    simp [UInt8.xor_assoc]
  · rw [if_neg h, if_neg h]
theorem XO_len {l e : List UInt8} (h : e.length = l.length) : (XO l e).length = l.length := by rw [List.length_zipWith]; omega
theorem XO_take (l e : List UInt8) (m : Nat) : (XO l e).take m = XO (l.take m) (e.take m) := List.take_zipWith
theorem XO_drop (l e : List UInt8) (m : Nat) : (XO l e).drop m = XO (l.drop m) (e.drop m) := List.drop_zipWith
theorem burst_part {e : List UInt8} {f lo hi : Nat} (h : Burst e f 32 true) (hlo : 8 * lo ≤ f + 7) (hb : ∀ j, bitAt e j = true → 8 * lo ≤ j ∧ j < 8 * hi) : Burst ((e.take hi).drop lo) (f - 8 * lo) 32 true := by
  have hq : ∀ j, bitAt ((e.take hi).drop lo) j = bitAt e (j + 8 * lo) := fun j => by
    rw [bitAt_drop, bitAt_take]
    cases hq : bitAt e (j + 8 * lo) with
    | false => simp
    | true => have := (hb _ hq).2; simp [this]
  refine ⟨fun j hj => ?_, by simp only [true_iff]; obtain ⟨j, hj⟩ := h.2.1 rfl; exact ⟨j - 8 * lo, by rw [hq, Nat.sub_add_cancel (hb j hj).1]; exact hj⟩⟩
  rw [hq] at hj
  have := h.1 _ hj
  omega
theorem part_zero {e : List UInt8} {lo hi a b : Nat} (hb : ∀ j, bitAt e j = true → 8 * lo ≤ j ∧ j < 8 * hi) (h : hi ≤ a ∨ b ≤ lo) : (e.take b).drop a = List.replicate ((e.take b).drop a).length 0 := by
  refine zero_of fun j => ?_
  rw [bitAt_drop, bitAt_take]
  cases hq : bitAt e (j + 8 * a) with
  | false => simp
  | true => have := hb _ hq; simp; omega
theorem XO_zero' {l e : List UInt8} (h : e = List.replicate e.length 0) (hl : e.length = l.length) : XO l e = l := by rw [h, hl]; exact XO_zero l
theorem idxP_tail {l : List CD} (g : Good l) {X : List UInt8} (hX : X.length = (runB l).length) (hd : X.drop ((pgs l).flatMap pageB).length = (runB l).drop ((pgs l).flatMap pageB).length) : idxP X = some (lvs 0 (pgs l), l.length) := by
  have hb := idxP_back g.ok g.r g.n
  obtain ⟨z1, z2, z3, z4⟩ := run_sizes g.ok g.r g.n
  have ht8 : (tailB (idxB (pgs l) l.length).length).length = 8 := by rw [tailB, seal_len]; rfl
  have hlen : (runB l).length = ((pgs l).flatMap pageB).length + (idxB (pgs l) l.length).length + 8 := by rw [runB, List.length_append, List.length_append, ht8]
  have hT : (runB l).drop ((runB l).length - 8) = tailB (idxB (pgs l) l.length).length := by
    rw [hlen, Nat.add_sub_cancel, runB, List.drop_append_of_le_length (by rw [List.length_append]; omega), List.drop_of_length_le (by rw [List.length_append]; omega), List.nil_append]
  have hTX : X.drop (X.length - 8) = (runB l).drop ((runB l).length - 8) := by
    rw [hX, show (runB l).length - 8 = ((pgs l).flatMap pageB).length + ((runB l).length - 8 - ((pgs l).flatMap pageB).length) by omega, ← List.drop_drop, hd, List.drop_drop]
  have hTo : openC ((runB l).drop ((runB l).length - 8)) = (0, low4 (idxB (pgs l) l.length).length) := by rw [hT, tailB, open_seal]
  have hle : le4 (openC ((runB l).drop ((runB l).length - 8))).2 = (idxB (pgs l) l.length).length := by rw [hTo]; exact le4_low Zz
  have hcut : (X.take ((runB l).length - 8 - (idxB (pgs l) l.length).length + (idxB (pgs l) l.length).length)).drop ((runB l).length - 8 - (idxB (pgs l) l.length).length) = ((runB l).take ((runB l).length - 8 - (idxB (pgs l) l.length).length + (idxB (pgs l) l.length).length)).drop ((runB l).length - 8 - (idxB (pgs l) l.length).length) := by
    rw [List.drop_take, List.drop_take, show (runB l).length - 8 - (idxB (pgs l) l.length).length = ((pgs l).flatMap pageB).length by omega, hd]
  rw [← hb, idx_c (xs := X) Zz (by rw [hTX, hTo]), idx_c (xs := runB l) Zz (by rw [hTo]), hTX]
  rw [idx2, idx2, hX, hle, List.take_drop, List.take_drop, hcut]
theorem catP_bad {b : List UInt8} : ∀ {l : List LEAF} {i : Nat} {q : LEAF}, l[i]? = some q → pgP ((b.take (q.1 + q.2.1)).drop q.1) q.2.2 = none → catP b l = none
  | [], i, q, h, _ => by simp at h
  | x :: l, 0, q, h, h2 => by cases h; exact catP_n h2
  | x :: l, i + 1, q, h, h2 => by
    have ih := catP_bad (l := l) (i := i) h h2
    cases hx : pgP ((b.take (x.1 + x.2.1)).drop x.1) x.2.2 with
    | none => exact catP_n hx
    | some p => rw [catP_s hx, ih]; rfl
def cutsN (l : List CD) : List Nat := (lvs 0 (pgs l)).map (fun q => q.1 + q.2.1) ++ [(runB l).length - 8, (runB l).length]
theorem run_lens {l : List CD} : (runB l).length = ((pgs l).flatMap pageB).length + (idxB (pgs l) l.length).length + 8 := by
  have ht8 : (tailB (idxB (pgs l) l.length).length).length = 8 := by rw [tailB, seal_len]; rfl
  rw [runB, List.length_append, List.length_append, ht8]
theorem flat_take_add {ps : List (List CD)} {i : Nat} {p : List CD} (h : ps[i]? = some p) : ((ps.take (i + 1)).flatMap pageB).length = ((ps.take i).flatMap pageB).length + (pageB p).length := by
  rw [List.take_add_one, h]; simp
theorem burst_none {l : List CD} (g : Good l) {e : List UInt8} {f i c : Nat} (he : e.length = (runB l).length) (hB : Burst e f 32 true) (hi : (cutsN l)[i]? = some c) (hbf : ∀ j c', j < i → (cutsN l)[j]? = some c' → c' ≤ f / 8) (hc : ∀ j, bitAt e j = true → j < 8 * c) : ∀ z, idxP (XO (runB l) e) = some z → catP (XO (runB l) e) z.1 = none := by
  have hlen := run_lens (l := l)
  have hll := lvs_len (pgs l) 0
  have hXl : (XO (runB l) e).length = (runB l).length := XO_len he
  have hfb : ∀ j, bitAt e j = true → f ≤ j := fun j hj => (hB.1 j hj).1
  have hpart : ∀ a b, ((XO (runB l) e).take b).drop a = XO (((runB l).take b).drop a) ((e.take b).drop a) := fun a b => by rw [XO_take, XO_drop]
  obtain ⟨z1, z2, z3, z4⟩ := run_sizes g.ok g.r g.n
  have hTe : (runB l).drop ((runB l).length - 8) = tailB (idxB (pgs l) l.length).length := by
    rw [hlen, Nat.add_sub_cancel, runB, List.drop_append_of_le_length (by rw [List.length_append]; omega), List.drop_of_length_le (by rw [List.length_append]; omega), List.nil_append]
  by_cases h1 : i < (pgs l).length
  · -- a page
    obtain ⟨p, hp⟩ : ∃ p, (pgs l)[i]? = some p := ⟨_, List.getElem?_eq_getElem h1⟩
    have hq := lvs_at (a := 0) hp
    have hcq : (cutsN l)[i]? = some (0 + (((pgs l).take i).flatMap pageB).length + (pageB p).length) := by
      rw [cutsN, List.getElem?_append_left (by rw [List.length_map]; omega), List.getElem?_map, hq]; rfl
    rw [hi] at hcq
    cases hcq
    have hlo : 8 * ((((pgs l).take i).flatMap pageB).length) ≤ f := by
      cases i with
      | zero => simp
      | succ k =>
        obtain ⟨p', hp'⟩ : ∃ p, (pgs l)[k]? = some p := ⟨_, List.getElem?_eq_getElem Zz⟩
        have hq' := lvs_at (a := 0) hp'
        have := hbf k (0 + (((pgs l).take k).flatMap pageB).length + (pageB p').length) Zz (by rw [cutsN, List.getElem?_append_left (by rw [List.length_map]; omega), List.getElem?_map, hq']; rfl)
        rw [flat_take_add hp']; omega
    have hend : (((pgs l).take i).flatMap pageB).length + (pageB p).length ≤ ((pgs l).flatMap pageB).length := by rw [← flat_take_add hp]; exact flat_take (f := pageB) (pgs l) (i + 1)
    have hbb : ∀ j, bitAt e j = true → 8 * (((pgs l).take i).flatMap pageB).length ≤ j ∧ j < 8 * (0 + (((pgs l).take i).flatMap pageB).length + (pageB p).length) := fun j hj => ⟨by have := hfb j hj; omega, hc j hj⟩
    have hix : idxP (XO (runB l) e) = some (lvs 0 (pgs l), l.length) := idxP_tail g hXl (by
      have h0 := hpart ((pgs l).flatMap pageB).length (runB l).length
      rw [List.take_of_length_le (Nat.le_of_eq hXl), List.take_of_length_le (Nat.le_refl _), part_zero hbb (.inl Zz)] at h0
      rw [h0, List.take_of_length_le (Nat.le_of_eq he), List.length_drop, he, ← List.length_drop]; exact XO_zero _)
    intro z hz
    rw [hix] at hz
    cases hz
    refine catP_bad hq ?_
    have hpa := page_at hp
    simp only
    have hcutp : ((runB l).take (0 + (((pgs l).take i).flatMap pageB).length + (pageB p).length)).drop (0 + (((pgs l).take i).flatMap pageB).length) = sealC (numB p.length ++ p.flatMap entB) := by
      rw [List.drop_take, Nat.add_sub_cancel_left]; exact hpa
    rw [hpart, hcutp]
    refine pg_a (open_burst _ _ ?_ (burst_part hB Zz (fun j hj => by have := hbb j hj; omega)))
    rw [List.length_drop, List.length_take, ← hcutp, List.length_drop, List.length_take, he]
  · have hend0 : 8 * ((pgs l).flatMap pageB).length ≤ f := by
      by_cases h0 : (pgs l).length = 0
      · rw [List.eq_nil_of_length_eq_zero h0]; simp
      · obtain ⟨p', hp'⟩ : ∃ p, (pgs l)[(pgs l).length - 1]? = some p := ⟨_, List.getElem?_eq_getElem Zz⟩
        have hq' := lvs_at (a := 0) hp'
        have := hbf ((pgs l).length - 1) (0 + (((pgs l).take ((pgs l).length - 1)).flatMap pageB).length + (pageB p').length) Zz (by rw [cutsN, List.getElem?_append_left (by rw [List.length_map]; omega), List.getElem?_map, hq']; rfl)
        have h5 := flat_take_add hp'
        rw [show (pgs l).length - 1 + 1 = (pgs l).length by omega, List.take_length] at h5
        omega
    by_cases h2 : i = (pgs l).length
    · -- the index
      subst h2
      have hcq : (cutsN l)[(pgs l).length]? = some ((runB l).length - 8) := by
        rw [cutsN, List.getElem?_append_right (by rw [List.length_map]; omega), List.length_map, hll, Nat.sub_self]; rfl
      rw [hi] at hcq
      cases hcq
      have hbb : ∀ j, bitAt e j = true → 8 * ((pgs l).flatMap pageB).length ≤ j ∧ j < 8 * ((runB l).length - 8) := fun j hj => ⟨by have := hfb j hj; omega, hc j hj⟩
      have hT9 : (XO (runB l) e).drop ((runB l).length - 8) = tailB (idxB (pgs l) l.length).length := by
        have h0 := hpart ((runB l).length - 8) (runB l).length
        rw [List.take_of_length_le (Nat.le_of_eq hXl), XO_zero' (part_zero hbb (.inl Zz)) (by rw [List.length_drop, List.length_take, List.length_drop, List.length_take, he]), List.take_of_length_le (Nat.le_refl _), hTe] at h0
        exact h0
      have hTo : openC ((XO (runB l) e).drop ((XO (runB l) e).length - 8)) = (0, low4 (idxB (pgs l) l.length).length) := by rw [hXl, hT9, tailB, open_seal]
      have hle : le4 (openC ((XO (runB l) e).drop ((XO (runB l) e).length - 8))).2 = (idxB (pgs l) l.length).length := by rw [hTo]; exact le4_low Zz
      intro z hz
      rw [idx_c Zz (by rw [hTo]), idx_e (by rw [hle]; omega)] at hz
      · cases hz
      rw [hle, hXl, hpart]
      have hcutI : ((runB l).take ((runB l).length - 8 - (idxB (pgs l) l.length).length + (idxB (pgs l) l.length).length)).drop ((runB l).length - 8 - (idxB (pgs l) l.length).length) = idxB (pgs l) l.length := by
        rw [List.drop_take, Nat.add_sub_cancel_left, show (runB l).length - 8 - (idxB (pgs l) l.length).length = ((pgs l).flatMap pageB).length by omega, runB, List.append_assoc, List.drop_left, List.take_left]
      rw [hcutI]
      refine open_burst (numB (pgs l).length ++ numB l.length ++ (pgs l).flatMap leafB) _ ?_ (burst_part hB Zz (fun j hj => by have := hbb j hj; omega))
      rw [show sealC (numB (pgs l).length ++ numB l.length ++ (pgs l).flatMap leafB) = idxB (pgs l) l.length from rfl, List.length_drop, List.length_take, he]; omega
    · -- the tail
      have hcl : (cutsN l).length = (pgs l).length + 2 := by rw [cutsN, List.length_append, List.length_map, hll]; rfl
      have hi2 := (List.getElem?_eq_some_iff.1 hi).1
      have h3 : i = (pgs l).length + 1 := by omega
      subst h3
      have := hbf (pgs l).length ((runB l).length - 8) Zz (by rw [cutsN, List.getElem?_append_right (by rw [List.length_map]; omega), List.length_map, hll, Nat.sub_self]; rfl)
      have hcq : (cutsN l)[(pgs l).length + 1]? = some (runB l).length := by
        rw [cutsN, List.getElem?_append_right (by rw [List.length_map]; omega), List.length_map, hll, Nat.add_sub_cancel_left]; rfl
      rw [hi] at hcq
      cases hcq
      intro z hz
      rw [idx_b Zz] at hz
      · cases hz
      rw [hXl]
      have h0 := hpart ((runB l).length - 8) (runB l).length
      rw [List.take_of_length_le (Nat.le_of_eq hXl), List.take_of_length_le (Nat.le_refl _), hTe, tailB] at h0
      rw [h0]
      refine open_burst _ _ ?_ (burst_part hB Zz (fun j hj => by have := hfb j hj; have := hc j hj; omega))
      rw [show sealC (low4 (idxB (pgs l) l.length).length) = tailB (idxB (pgs l) l.length).length from rfl, List.length_drop, List.length_take, he, tailB, seal_len, low4_len]; omega
theorem repsI2 {w : World} {x y : Int} (h : -9223372036854775808 ≤ x ∧ x ≤ 9223372036854775807) (h2 : -9223372036854775808 ≤ y ∧ y ≤ 9223372036854775807) : RepsV KI w [x, y] [.int .i64 x, .int .i64 y] := ⟨⟨_, rfl, rfl, h⟩, ⟨_, rfl, rfl, h2⟩, trivial⟩
def endsI (l : List CD) : List Int := (lvs 0 (pgs l)).map fun q => ((q.1 + q.2.1 : Nat) : Int)
def cutsI (l : List CD) : List Int := (cutsN l).map fun c => ((c : Nat) : Int)
theorem cutsI_eq (l : List CD) : endsI l ++ [(((runB l).length - 8 : Nat) : Int), ((runB l).length : Int)] = cutsI l := by
  rw [cutsI, cutsN, List.map_append, List.map_map]; rfl
theorem cuts_le {l : List CD} (g : Good l) {i c : Nat} (h : (cutsN l)[i]? = some c) : c ≤ (runB l).length := by
  have := (idxP_sum (idxP_back g.ok g.r g.n)).1
  rcases List.mem_append.1 (List.mem_of_getElem? h) with h | h
  · obtain ⟨q, hq, rfl⟩ := List.mem_map.1 h
    exact this q hq
  · simp at h; omega
theorem cuts_last (l : List CD) : (cutsN l)[(cutsN l).length - 1]? = some (runB l).length := by
  have : ∀ (m : List Nat) (a b : Nat), (m ++ [a, b])[(m ++ [a, b]).length - 1]? = some b := fun m a b => by
    rw [List.length_append, show m.length + [a, b].length - 1 = m.length + 1 by simp, List.getElem?_append_right Zz, Nat.add_sub_cancel_left]; rfl
  exact this _ _ _
theorem cuts_pos (l : List CD) : 0 < (cutsN l).length := by rw [cutsN, List.length_append]; simp
theorem RRI_g {lo hi : Nat} {A : Option Addr} {n c : Nat} {xs : List UInt8} {lv : List LEAF} {k : Nat} (w : World) (hs : Sl KB lo hi w A n xs) (hhi : hi ≤ w.heap.size) (hnc : n ≤ c) (hn : n ≤ 1000000) (hx : idxP xs = some (lv, k)) : Ret Tryz.prog 29 #[.slice A n c] w fun r w' => ∃ a1 a3, r = .tuple #[.agg #[.slice a1 lv.length a3, .int .i64 (k : Int)], .bool true] ∧ lv.length ≤ a3 ∧ LfS w.heap.size w'.heap.size w' a1 lv.length lv ∧ Keep w w' := by
  refine (RRI_c w hs hhi hnc hn).mono ?_
  rw [hx]
  rintro r w' ⟨⟨A', c', rfl, hc, hL⟩, hk⟩
  exact ⟨_, _, rfl, hc, hL, hk⟩
theorem bz {n j : Nat} : bitAt (List.replicate n 0) j = false := by
  unfold bitAt
  rw [List.getD_eq_getElem?_getD, List.getElem?_replicate]
  split <;> simp
theorem flip_lt {e : List UInt8} {j0 c : Nat} (h : ∀ j, bitAt e j = true → j < 8 * c) (hj : j0 < 8 * e.length) (hc : j0 / 8 < c) : ∀ j, bitAt (flipE e j0) j = true → j < 8 * c := fun j hb => by
  rw [flip_bit _ _ _ hj] at hb
  by_cases e1 : j = j0
  · omega
  · rw [if_neg e1] at hb; exact h j hb
theorem RunBursts_w (w : World) (hTb : TabOk w) (A : Option Addr) (n c : Nat) (l : List CD) (hnc : n ≤ c) (hs : Sl KC 0 w.heap.size w A n l) (at_ : Int) (bits : R32) : Ret Tryz.prog 7 #[.slice A n c, .int .i64 at_, .int .u32 (bits.toNat : Int)] w fun r w' => r = .bool true ∧ Keep w w' := by
 have htl := hTb.lt
 refine X.enter Zf7 rfl Tryz.ntmps7 rfl<|Zs<|Zr<|Zoa rfl rfl<|Ze<|Zs<|Zr<|Zom rfl rfl<|Zc (X.callE (few_c _ hs (Nat.le_refl _) hnc) Tryz.call9 rfl rfl) rfl ?_
 rintro _ w1 ⟨vF, LF_, mF, SF, GF, rfl, hNF, hk1⟩
 obtain ⟨Al, cl, rfl, hcl, hsl⟩ := nrow_kc hNF
 have hll := hsl.len
 have hl60 := few_len l
 have hOks : Oks (fewL l) := kc_ok hsl
 have hk1z := hk1.size
 have hk1' := hk1.size
 refine Zoa rfl rfl<|Ze<|Zs<|Zr<|Zom rfl rfl<|Zc (X.callE (Bytes_c _ hsl Zz hcl Zz hOks (hTb.keep hk1)) Tryz.call18 rfl rfl) rfl ?_
 rintro _ w2 ⟨vB, rfl, hMB, hk2⟩
 have hk2' := hk2.size
 refine Zom rfl rfl<|Zo (X.extr rfl rfl) rfl<|Zo (X.extr rfl rfl) rfl<|Zoa rfl rfl<|Zoai rfl rfl<|Ze<|Zs<|Zs<|Zr<|Zomi rfl rfl<|X.opP X.wN rfl rfl (X.neI rfl rfl) (fun h28 => ?_) (fun h28 => ?_)
 ·have hR : isR (fewL l) = false := by
    cases hq : isR (fewL l) with
    | false => rfl
    | true => rw [hq] at h28; exact absurd rfl h28
  refine Ze<|Zt rfl<|Zs<|Zr<|Zom rfl rfl<|Zc (X.callE (RIs_c _ (hsl.keep hk2) Zz) Tryz.call10 rfl rfl) rfl ?_
  rintro _ w3 ⟨rfl, hk3⟩
  have hk3' := hk3.size
  refine Zo (X.not_ rfl) rfl<|Zomo rfl rfl<|X.forkO 32 rfl (fun h32 => ?_) (fun h32 => ?_)
  ·refine X.opE (X.wG rfl rfl rfl) rfl (X.callE (ralive_c _ (hTb.keep ((hk1.trans hk2).trans hk3))) Zc11 rfl rfl) ?_
   rintro _ w4 ⟨rfl, hk4⟩
   have hk4' := hk4.size
   refine Zo (ZdTo rfl rfl) rfl<|Zoao rfl rfl<|Ze<|X.ret1 (v := (.bool _)) Zf7 Zr7 rfl ?_
   exact ⟨rfl, (((hk1.trans hk2).trans hk3).trans hk4)⟩
  ·rw [hR] at h32; exact absurd h32 (by decide)
 ·have hR : isR (fewL l) = true := by
    cases hq : isR (fewL l) with
    | true => rfl
    | false => rw [hq] at h28; exact absurd (Classical.byContradiction h28) (by decide)
  rw [if_pos hR] at hMB
  obtain ⟨Ab, cb, rfl, hcb, hsB⟩ := hMB.slF KB_flat 0 (fun _ _ => Nat.zero_le _)
  have g : Good (fewL l) := ⟨hOks, hR, by omega⟩
  have hRs := (run_sizes hOks hR Zz).2.2.2
  have hib := idxP_back g.ok g.r g.n
  obtain ⟨hzq1, hzq2⟩ := idxP_sum hib
  have hRl8 := run_lens (l := fewL l)
  have hEl : (endsI (fewL l)).length ≤ 100 := by rw [endsI, List.length_map, lvs_len]; have := pgs_len (fewL l); omega
  refine Ze<|Zf rfl<|Zk<|Zs<|Zr<|Zoms rfl rfl<|Zc (X.callE (RRI_g _ hsB Zz Zz Zz hib) Tryz.call29 rfl rfl) rfl ?_
  rintro _ w5 ⟨a1, a3, rfl, hlc, ⟨LI, hsL, hLA⟩, hk5⟩
  have hLb := hsL.bound
  have hLl := hsL.len
  have hLn := lvs_len (pgs (fewL l)) 0
  have hk5' := hk5.size
  refine Zom rfl rfl<|Zo (X.extr rfl rfl) rfl<|Zo (X.extr rfl rfl) rfl<|Zc (X.allocE Zv71 rfl) rfl ?_
  rintro _ w6 ⟨rfl, hB6, hk6, hz6⟩
  refine Zc (X.storeNE Zs71 hB6 rfl rfl rfl rfl (fun u hu => by simp at hu; rcases hu with rfl | rfl <;> rfl)) rfl ?_
  rintro _ w7 ⟨hB7, hx7, hz7⟩
  refine Zoao rfl rfl<|Ze<|Zs<|Zs<|Zr<|Zomt rfl rfl<|Zo (X.not_ rfl) rfl<|Zomf rfl rfl<|Zg (Zdmi rfl) rfl rfl rfl rfl<|X.opP (X.wG rfl rfl rfl) rfl rfl (X.lss rfl rfl) (fun h44 => ?_) (fun h44 => ?_)
  ·refine Zo (ZdFt rfl rfl) rfl<|Zomt rfl rfl<|Zp rfl rfl rfl<|Zp rfl rfl rfl<|Zp rfl rfl rfl<|Zp rfl rfl rfl<|Zp rfl rfl rfl<|Zo (ZdTt rfl rfl) rfl<|Zomt rfl rfl<|Zp rfl rfl rfl<|Zp rfl rfl rfl<|Zo (ZdTt rfl rfl) rfl<|Ze<|Zt rfl<|Zs<|Zr<|Zomt rfl rfl<|Zomt rfl rfl<|X.opE (X.wG rfl rfl rfl) rfl (X.callE (ralive_c _ (hTb.keep ((((hk1.trans hk2).trans hk5).trans hk6).step hx7 zq8))) Zc11 rfl rfl) ?_
   rintro _ w8 ⟨rfl, hk8⟩
   have hk8' := hk8.size
   refine Zo (ZdTo rfl rfl) rfl<|Zoao rfl rfl<|Ze<|X.ret1 (v := (.bool _)) Zf7 Zr7 rfl ?_
   exact ⟨rfl, (((((hk1.trans hk2).trans hk5).trans hk6).step hx7 zq8).trans hk8)⟩
  ·obtain ⟨a, rfl⟩ := Int.eq_ofNat_of_zero_le (show 0 ≤ at_ by omega)
   refine Zo (ZdFf rfl rfl) rfl<|Zomf rfl rfl<|Zg (Zdmi rfl) rfl rfl rfl rfl<|Zg (Zdms rfl) rfl rfl rfl rfl<|Zg (X.lenSl Zu43 rfl) rfl rfl rfl rfl<|Zg (X.mul rfl rfl (X.w_i64 Zz)) rfl rfl rfl rfl<|X.opP (X.wG rfl rfl rfl) rfl rfl (X.geq rfl rfl) (fun h51 => ?_) (fun h51 => ?_)
   ·refine Zo (ZdFt rfl rfl) rfl<|Zomt rfl rfl<|Zp rfl rfl rfl<|Zp rfl rfl rfl<|Zo (ZdTt rfl rfl) rfl<|Ze<|Zt rfl<|Zs<|Zr<|Zomt rfl rfl<|Zomt rfl rfl<|X.opE (X.wG rfl rfl rfl) rfl (X.callE (ralive_c _ (hTb.keep ((((hk1.trans hk2).trans hk5).trans hk6).step hx7 zq8))) Zc11 rfl rfl) ?_
    rintro _ w9 ⟨rfl, hk9⟩
    have hk9' := hk9.size
    refine Zo (ZdTo rfl rfl) rfl<|Zoao rfl rfl<|Ze<|X.ret1 (v := (.bool _)) Zf7 Zr7 rfl ?_
    exact ⟨rfl, (((((hk1.trans hk2).trans hk5).trans hk6).step hx7 zq8).trans hk9)⟩
   ·refine Zo (ZdFf rfl rfl) rfl<|Zomf rfl rfl<|Zg (Zdmw rfl) rfl rfl rfl rfl<|X.opP (X.wG rfl rfl rfl) rfl rfl (X.eqI rfl rfl) (fun h55 => ?_) (fun h55 => ?_)
    ·refine Zo (ZdFt rfl rfl) rfl<|Ze<|Zt rfl<|Zs<|Zr<|Zomt rfl rfl<|Zomt rfl rfl<|X.opE (X.wG rfl rfl rfl) rfl (X.callE (ralive_c _ (hTb.keep ((((hk1.trans hk2).trans hk5).trans hk6).step hx7 zq8))) Zc11 rfl rfl) ?_
     rintro _ w10 ⟨rfl, hk10⟩
     have hk10' := hk10.size
     refine Zo (ZdTo rfl rfl) rfl<|Zoao rfl rfl<|Ze<|X.ret1 (v := (.bool _)) Zf7 Zr7 rfl ?_
     exact ⟨rfl, (((((hk1.trans hk2).trans hk5).trans hk6).step hx7 zq8).trans hk10)⟩
    ·refine Zo (ZdFf rfl rfl) rfl<|Ze<|Zf rfl<|Zk<|Zs<|Zr<|Zoa rfl rfl<|Ze<|Zs<|Zs<|Zr<|Zoa rfl rfl<|Ze<|Zb ?_
     have hKI := ((((hk1.trans hk2).trans hk5).trans hk6).step hx7 zq8)
     obtain ⟨wI, hwI⟩ : ∃ wI, wI = w7 := ⟨_, rfl⟩
     have hsLI := ((hsL.keep hk6).ext hx7 (by intro q g1 g2 g3; have g3 : q = _ := g3; omega))
     have hB9I := hB7
     have hsBI := (hsB.keep ((hk5.trans hk6).step hx7 zq8))
     have hsBh := hsBI.bound
     rw [← hwI] at hKI hsLI hB9I hsBI
     have hLI := hKI.size
     have hB9l := hB9I.lt
     have hwn : w5.heap.size ≤ wI.heap.size := by rw [hwI]; omega
     refine X.loopL (σ := Nat × Value) (fun s => [(1, .int .i64 (a : Int)), (2, .int .u32 (bits.toNat : Int)), (7, .slice Ab (runB (fewL l)).length cb), (9, .pointer (some ⟨w5.heap.size, 0, none⟩)), (11, s.2), (12, .int .i64 (s.1 : Int))]) (fun s w' => s.1 ≤ (lvs 0 (pgs (fewL l))).length ∧ Keep w w' ∧ Ext (fun k => wI.heap.size ≤ k) wI w' ∧ Mine KI 3 (fun k => wI.heap.size ≤ k) 0 0 w' s.2 ((endsI (fewL l)).take s.1)) (fun s => (lvs 0 (pgs (fewL l))).length - s.1) (0, .slice none 0 0) ⟨rfl, rfl, rfl, rfl, rfl, rfl, trivial⟩ ⟨Nat.zero_le _, ((((hk1.trans hk2).trans hk5).trans hk6).step hx7 zq8), by rw [hwI]; exact Ext.refl _ _, Mine.nil _ _ _ _ _ _⟩ ?_
     rintro ⟨i, v⟩ b w1 ⟨hi0, hk, hxI, hMe⟩ hback
     dsimp only at hi0 hMe
     have hk0 := hk.size
     have hxI0 := hxI.size
     have hsL1 := hsLI.ext hxI (fun q g1 g2 g3 => by have g3 : _ ≤ q := g3; omega)
     have hsB1 := hsBI.ext hxI (fun q g1 g2 g3 => by have g3 : _ ≤ q := g3; omega)
     have hB91 := hB9I.ext hxI (by intro hh; have hh : _ ≤ _ := hh; omega)
     refine Zs<|Zs<|Zr<|Zomi rfl rfl<|Zo (X.fldB (j := 0) Zu71 rfl rfl Zs69 rfl) rfl<|Zo (X.load1B Zi69 hB91 rfl rfl) rfl<|Zo (X.lenSl Zu69 rfl) rfl<|X.opP X.wN rfl rfl (X.lss rfl rfl) (fun h65 => ?_) (fun h65 => ?_)
     ·obtain ⟨x, hx⟩ : ∃ x, LI[i]? = some x := ⟨_, List.getElem?_eq_getElem Zz⟩
      obtain ⟨q, hq, e1, e2, u0, u1, u2, u3, u4⟩ := hLA.2 _ _ hx
      clear u4 u3 u0
      clear u1 u2
      obtain ⟨xa, xb, xh⟩ := x
      dsimp only at e1 e2
      subst e1 e2
      have hqb := hzq1 q (List.mem_of_getElem? hq)
      have heq : (endsI (fewL l)).take (i + 1) = (endsI (fewL l)).take i ++ [((q.1 + q.2.1 : Nat) : Int)] := by
        have h0 : (endsI (fewL l))[i]? = some ((q.1 + q.2.1 : Nat) : Int) := by rw [endsI, List.getElem?_map, hq]; rfl
        rw [List.take_add_one, h0]; rfl
      refine Ze<|Zt rfl<|Zk<|Zs<|Zb<|X.regionD (fun k => wI.heap.size ≤ k) 16 Zl Zl (fun w11 hk11 hz11 => ?_)
      refine ZDc 0 rfl Zl (X.move rfl)<|ZDc 1 rfl Zl (X.fldB (j := 0) Zu71 rfl rfl Zs69 rfl)<|ZD 2 rfl Zl (fun w' hk' => X.load1B Zi69 ((hB91.keep hk11).ext hk' zq1) rfl rfl) ?_
      refine ZDc 3 rfl Zl (Zdmi rfl)<|ZD 4 rfl Zl (fun w' hk' => X.idxS ((hsL1.keep hk11).ext hk' zq1) Zu69 Zs76 rfl rfl ⟨by omega, by omega⟩) ?_
      refine ZDc 5 rfl Zl (X.fldA Zu76 rfl rfl Zs3)<|ZD 6 rfl Zl (fun w' hk' => X.loadSf (o := 0) Zi3 ((hsL1.keep hk11).ext hk' zq1) hx rfl (fun _ h => by rw [h.1]; rfl)) ?_
      refine ZDc 7 rfl Zl (X.fldB (j := 0) Zu71 rfl rfl Zs69 rfl)<|ZD 8 rfl Zl (fun w' hk' => X.load1B Zi69 ((hB91.keep hk11).ext hk' zq1) rfl rfl) ?_
      refine ZDc 9 rfl Zl (Zdmi rfl)<|ZD 10 rfl Zl (fun w' hk' => X.idxS ((hsL1.keep hk11).ext hk' zq1) Zu69 Zs76 rfl rfl ⟨by omega, by omega⟩) ?_
      refine ZDc 11 rfl Zl (X.fldA Zu76 rfl rfl Zs3)<|ZD 12 rfl Zl (fun w' hk' => X.loadSf (o := 1) Zi3 ((hsL1.keep hk11).ext hk' zq1) hx rfl (fun _ h => by rw [h.1]; rfl)) ?_
      refine ZDc 13 rfl Zl (X.add (c := ((q.1 + q.2.1 : Nat) : Int)) rfl rfl (by dsimp only; rw [X.w_i64 Zz]; omega)) ?_
      refine X.dE (i := 14) Zl rfl (X.dwN rfl) (X.litKF KI_flat (K := KI) (xs := [Operand.tmp 81]) (vs := [.int .i64 ((q.1 + q.2.1 : Nat) : Int)]) (ys := [((q.1 + q.2.1 : Nat) : Int)]) Zu74 Zs3 Zv3 rfl rfl rfl rfl rfl (repsI1 ⟨by omega, by omega⟩)) (by rintro _ w12 ⟨rfl, hs12, hB12, hk12, hz12⟩ _; exact hk12.mono (fun _ _ h => h.elim)) ?_
      rintro _ w12 ⟨rfl, hs12, hB12, hk12, hz12⟩
      refine X.dE (i := 15) Zl rfl (X.dwN rfl) (X.appE (K := KI) (S := fun k => wI.heap.size ≤ k) KI_flat Zu74 EInt rfl rfl (hMe.keep (hk11.trans hk12)) hs12 zq9 zq8) (by rintro v13 w13 ⟨hM13, hx13⟩ _; exact hx13.mono (fun k _ h => by (try simp only [] at *); omega)) ?_
      rintro v13 w13 ⟨hM13, hx13⟩
      have hx13' := hx13.size
      refine X.dStep (i := 16) Zl rfl (X.dwN rfl) (X.assign rfl) (fun h => absurd h (by decide))<|Zdend Zl<|Zi<|Zr<|Zomi rfl rfl<|Zo (X.add rfl rfl (X.w_i64 Zz)) rfl<|Zoai rfl rfl<|Ze ?_
      refine hback (i + 1, _) _ _ ⟨rfl, rfl, rfl, rfl, rfl, rfl, trivial⟩ ⟨by omega, (((hk.trans hk11).trans hk12).step hx13 zq8), (Ext.andThen (Ext.andThen (Ext.andThen hxI hk11 (by intro q h1 h2; first | exact (h2 : False).elim | (have h2 : q = _ := h2; show _ ≤ q; omega) | (have h2 : _ ≤ q := h2; show _ ≤ q; omega))) hk12 (by intro q h1 h2; first | exact (h2 : False).elim | (have h2 : q = _ := h2; show _ ≤ q; omega) | (have h2 : _ ≤ q := h2; show _ ≤ q; omega))) hx13 (by intro q h1 h2; first | exact (h2 : False).elim | (have h2 : q = _ := h2; show _ ≤ q; omega) | (have h2 : _ ≤ q := h2; show _ ≤ q; omega))), by (try dsimp only); rw [heq]; exact hM13⟩ (by (try dsimp only); omega)
     ·have hin : i = (lvs 0 (pgs (fewL l))).length := by omega
      subst hin
      rw [List.take_of_length_le (by rw [endsI, List.length_map]; omega)] at hMe
      refine Ze<|Zf rfl<|Zx rfl<|Zs<|Zr<|Zom rfl rfl<|Zoms rfl rfl<|Zo (X.lenSl Zu43 rfl) rfl<|Zo (X.sub (c := (((runB (fewL l)).length - 8 : Nat) : Int)) rfl rfl (by rw [X.w_i64 Zz]; omega)) rfl ?_
      refine Zoms rfl rfl<|Zo (X.lenSl Zu43 rfl) rfl<|Zc (X.litKF KI_flat (K := KI) (xs := [Operand.tmp 87, Operand.tmp 89]) (vs := [.int .i64 (((runB (fewL l)).length - 8 : Nat) : Int), .int .i64 ((runB (fewL l)).length : Int)]) (ys := [(((runB (fewL l)).length - 8 : Nat) : Int), ((runB (fewL l)).length : Int)]) Zu74 Zs3 Zv3 rfl rfl rfl rfl rfl (repsI2 ⟨by omega, by omega⟩ ⟨by omega, by omega⟩)) rfl ?_
      rintro _ w14 ⟨rfl, hs14, hB14, hk14, hz14⟩
      refine Zc (X.appE (K := KI) (S := fun k => wI.heap.size ≤ k) KI_flat Zu74 EInt rfl rfl (hMe.keep hk14) hs14 zq9 zq8) rfl ?_
      rintro v15 w15 ⟨hM15, hx15⟩
      have hx15' := hx15.size
      refine Zoa rfl rfl<|Ze<|Zs<|Zr<|Zoa rfl rfl<|Ze<|Zs<|Zs<|Zr<|Zoa rfl rfl<|Ze<|Zb ?_
      have hMC := hM15
      rw [cutsI_eq] at hMC
      obtain ⟨Ac, cc, eC, hcc, hsC⟩ := hMC.slF KI_flat 0 (fun _ _ => Nat.zero_le _)
      subst eC
      have hCl : (cutsI (fewL l)).length = (cutsN (fewL l)).length := by rw [cutsI, List.length_map]
      have hCb := hsC.bound
      have hsBC := ((hsB1.keep hk14).ext hx15 zq1)
      have hKC := ((hk.trans hk14).step hx15 zq8)
      refine X.loopL (σ := Nat) (fun s => [(1, .int .i64 (a : Int)), (2, .int .u32 (bits.toNat : Int)), (7, .slice Ab (runB (fewL l)).length cb), (11, .slice Ac (cutsI (fewL l)).length cc), (13, .int .i64 0), (14, .int .i64 (s : Int))]) (fun s w' => s ≤ (cutsN (fewL l)).length ∧ (∀ j c', j < s → (cutsN (fewL l))[j]? = some c' → c' ≤ a / 8) ∧ Keep w w' ∧ Keep w15 w') (fun s => (cutsN (fewL l)).length - s) 0 ⟨rfl, rfl, rfl, rfl, rfl, rfl, trivial⟩ ⟨Nat.zero_le _, fun j c' h => absurd h Zz, hKC, Keep.refl _⟩ ?_
      rintro i b wd ⟨hi0, hbf, hk, hkC⟩ hback
      have hk0 := hk.size
      have hkC0 := hkC.size
      refine Zs<|Zs<|Zr<|Zomi rfl rfl<|Zoms rfl rfl<|Zo (X.lenSl Zu74 rfl) rfl<|X.opP X.wN rfl rfl (X.lss rfl rfl) (fun h95 => ?_) (fun h95 => ?_)
      ·obtain ⟨c', hc'⟩ : ∃ c', (cutsN (fewL l))[i]? = some c' := ⟨_, List.getElem?_eq_getElem Zz⟩
       have hx : (cutsI (fewL l))[i]? = some ((c' : Nat) : Int) := by rw [cutsI, List.getElem?_map, hc']; rfl
       have hcB := cuts_le g hc'
       refine Ze<|Zt rfl<|Zk<|Zs<|Zb<|Zs<|Zr<|Zoms rfl rfl<|Zomi rfl rfl<|Zo (X.idxS (hsC.keep hkC) Zu74 Zs3 rfl rfl ⟨by omega, by omega⟩) rfl<|Zo (X.loadS Zi3 (hsC.keep hkC) hx rfl (fun _ h => by rw [h.1]; rfl)) rfl ?_
       refine Zomi rfl rfl<|Zo (X.quo (c := ((a / 8 : Nat) : Int)) rfl rfl (by decide) (quo8 a Zz)) rfl<|X.opP X.wN rfl rfl (X.gtr rfl rfl) (fun h104 => ?_) (fun h104 => ?_)
       ·
        refine Ze<|Zt rfl<|Zs<|Zr<|Zoms rfl rfl<|Zomi rfl rfl<|Zo (X.idxS (hsC.keep hkC) Zu74 Zs3 rfl rfl ⟨by omega, by omega⟩) rfl<|Zo (X.loadS Zi3 (hsC.keep hkC) hx rfl (fun _ h => by rw [h.1]; rfl)) rfl ?_
        refine Zoai rfl rfl<|Ze<|Zx rfl<|Zs<|Zr<|Zc (X.lit0E (K := KB) (S := fun k => w.heap.size ≤ k) Zu43 Zs5 zq8) rfl ?_
        rintro v16 w16 ⟨hM16, hk16, hz16⟩
        refine Zoms rfl rfl<|Zc (X.appE (K := KB) (S := fun k => w.heap.size ≤ k) KB_flat Zu43 E5 rfl rfl hM16 ((hsBC.keep hkC).keep hk16) zq9 zq8) rfl ?_
        rintro v17 w17 ⟨hM17, hx17⟩
        have hx17' := hx17.size
        refine Zoa rfl rfl<|Ze<|Zs<|Zr<|Zoa rfl rfl<|Ze<|Zs<|Zs<|Zr<|Zoa rfl rfl<|Ze<|Zb<|X.loopL (σ := Nat × Value × List UInt8 × Bool) (fun s => [(1, .int .i64 (a : Int)), (2, .int .u32 (bits.toNat : Int)), (13, .int .i64 (c' : Int)), (15, s.2.1), (16, .bool s.2.2.2), (17, .int .i64 (s.1 : Int))]) (fun s w' => s.1 ≤ 32 ∧ s.2.2.1.length = (runB (fewL l)).length ∧ Burst s.2.2.1 a s.1 s.2.2.2 ∧ (∀ j, bitAt s.2.2.1 j = true → j < 8 * c') ∧ Mine KB 5 (fun k => w.heap.size ≤ k) 0 0 w' s.2.1 (XO (runB (fewL l)) s.2.2.1) ∧ Keep w w') (fun s => 32 - s.1) (0, _, List.replicate (runB (fewL l)).length 0, false) ⟨rfl, rfl, rfl, rfl, rfl, rfl, trivial⟩ ⟨by simp, by simp, burst_z _ a, fun j hj => (by rw [bz] at hj; cases hj), by dsimp only; rw [XO_zero]; exact hM17, ((hk.trans hk16).step hx17 zq8)⟩ ?_
        rintro ⟨k, v, e, t⟩ b0 wl ⟨hk0, he, hB, hcb', hM0, hk⟩ hback
        dsimp only
        simp only at hk0 he hB hcb' hM0
        have hk' := hk.size
        refine Zs<|Zs<|Zr<|Zomi rfl rfl<|X.opP X.wN rfl rfl (X.lss rfl rfl) (fun h113 => ?_) (fun h113 => ?_)
        ·refine Ze<|Zt rfl<|Zk<|Zs<|Zb<|Zs<|Zr<|Zomw rfl rfl<|Zomi rfl rfl<|Zo (X.cvI Zu3 Zu77 rfl (X.w_u64 Zz)) rfl<|Zo (X.shr (c := ((bits >>> k).toNat : Int)) rfl rfl Zz (shr32 bits k Zz)) rfl<|Zo (X.and_ rfl rfl (and32 _ 1#32)) rfl<|X.opP X.wN rfl rfl (X.eqI rfl rfl) (fun h121 => ?_) (fun h121 => ?_)
         ·refine Zomt rfl rfl<|Zg (Zdmi rfl) rfl rfl rfl rfl<|Zg (Zdmi rfl) rfl rfl rfl rfl<|Zg (X.add (c := ((a + k : Nat) : Int)) rfl rfl (by rw [X.w_i64 Zz]; omega)) rfl rfl rfl rfl ?_
          refine Zg (X.quo (c := (((a + k) / 8 : Nat) : Int)) rfl rfl (by decide) (quo8 (a + k) Zz)) rfl rfl rfl rfl<|Zg (Zdmi rfl) rfl rfl rfl rfl<|X.opP (X.wG rfl rfl rfl) rfl rfl (X.lss rfl rfl) (fun h128 => ?_) (fun h128 => ?_)
          ·have hxl : (XO (runB (fewL l)) e).length = (runB (fewL l)).length := XO_len he
           obtain ⟨y, hx⟩ := getN ((a + k) / 8) hxl Zz
           refine Zo (ZdTt rfl rfl) rfl<|Ze<|Zt rfl<|Zs<|Zr<|Zom rfl rfl<|Zomi rfl rfl<|Zomi rfl rfl<|Zo (X.add (c := ((a + k : Nat) : Int)) rfl rfl (by rw [X.w_i64 Zz]; omega)) rfl ?_
           refine Zo (X.quo (c := (((a + k) / 8 : Nat) : Int)) rfl rfl (by decide) (quo8 (a + k) Zz)) rfl<|Zom rfl rfl<|Zomi rfl rfl<|Zomi rfl rfl<|Zo (X.add (c := ((a + k : Nat) : Int)) rfl rfl (by rw [X.w_i64 Zz]; omega)) rfl ?_
           refine Zo (X.quo (c := (((a + k) / 8 : Nat) : Int)) rfl rfl (by decide) (quo8 (a + k) Zz)) rfl ?_
           have q18 := hM0.slF KB_flat 0 (fun _ _ => Nat.zero_le _)
           obtain ⟨A18, c18, rfl, hc18, hs18⟩ := q18
           refine Zo (X.idxS hs18 Zu43 Zs5 rfl rfl ⟨by omega, by omega⟩) rfl<|Zo (X.loadS Zi5 hs18 hx rfl (fun _ h => by rw [h.1]; rfl)) rfl ?_
           refine Zomi rfl rfl<|Zomi rfl rfl<|Zo (X.add (c := ((a + k : Nat) : Int)) rfl rfl (by rw [X.w_i64 Zz]; omega)) rfl ?_
           refine Zo (X.rem (c := (((a + k) % 8 : Nat) : Int)) rfl rfl (by decide) rfl) rfl<|Zo (X.cvI Zu3 Zu77 rfl (X.w_u64 Zz)) rfl<|Zo (X.shl (c := ((UInt8.ofNat (2 ^ ((a + k) % 8))).toNat : Int)) rfl rfl Zz (shl1 ((a + k) % 8) Zz)) rfl<|Zo (X.xor_ rfl rfl (xor8_crc y (UInt8.ofNat (2 ^ ((a + k) % 8))))) rfl<|Zo (X.idxS hs18 Zu43 Zs5 rfl rfl ⟨by omega, by omega⟩) rfl<|Zc (X.storeM Zs5 (Mine.mono (T := fun k => w.heap.size ≤ k) hM0 (fun k h1 h2 => by (try simp only [] at *); omega)) Zz rfl rfl) rfl ?_
           rintro _ w19 ⟨hM19, hx19, hz19⟩
           refine Ze<|Zr<|Zoa rfl rfl<|Ze<|Zi<|Zr<|Zomi rfl rfl<|Zo (X.add rfl rfl (X.w_i64 Zz)) rfl<|Zoai rfl rfl<|Ze ?_
           refine hback (k + 1, _, flipE e (a + k), true) _ _ ⟨rfl, rfl, rfl, rfl, rfl, rfl, trivial⟩ ⟨by dsimp only; omega, by dsimp only; rw [flip_len]; exact he, burst_set hB Zz, flip_lt hcb' Zz Zz, by dsimp only; rw [← XO_flip Zz hx]; exact hM19, (hk.step hx19 zq8)⟩ (by dsimp only; omega)
          ·refine Zo (ZdTf rfl rfl) rfl<|Ze<|Zf rfl<|Zk<|Zi<|Zr<|Zomi rfl rfl<|Zo (X.add rfl rfl (X.w_i64 Zz)) rfl<|Zoai rfl rfl<|Ze ?_
           refine hback (k + 1, _, e, t) _ _ ⟨rfl, rfl, rfl, rfl, rfl, rfl, trivial⟩ ⟨by dsimp only; omega, he, burst_next hB, hcb', hM0, hk⟩ (by dsimp only; omega)
         ·refine Zomf rfl rfl<|Zp rfl rfl rfl<|Zp rfl rfl rfl<|Zp rfl rfl rfl<|Zp rfl rfl rfl<|Zp rfl rfl rfl<|Zp rfl rfl rfl<|Zo (ZdFf rfl rfl) rfl<|Ze<|Zf rfl<|Zk<|Zi<|Zr<|Zomi rfl rfl<|Zo (X.add rfl rfl (X.w_i64 Zz)) rfl<|Zoai rfl rfl<|Ze ?_
          refine hback (k + 1, _, e, t) _ _ ⟨rfl, rfl, rfl, rfl, rfl, rfl, trivial⟩ ⟨by dsimp only; omega, he, burst_next hB, hcb', hM0, hk⟩ (by dsimp only; omega)
        ·refine Ze<|Zf rfl<|Zx rfl<|Zs<|Zs<|Zr<|Zomo rfl rfl<|Zo (X.not_ rfl) rfl<|Ze<|X.condB rfl (fun hcT => ?_) (fun hcT => ?_)
         ·refine Zs<|Zr<|Zc (X.callE (ralive_c _ (hTb.keep hk)) Zc11 rfl rfl) rfl ?_
          rintro _ w20 ⟨rfl, hk20⟩
          have hk20' := hk20.size
          refine Zoao rfl rfl<|Ze<|X.ret1 (v := (.bool _)) Zf7 Zr7 rfl ?_
          exact ⟨rfl, (hk.trans hk20)⟩
         ·have htt : t = true := by cases t <;> first | rfl | exact absurd hcT (by decide)
          subst htt
          have hXl : (XO (runB (fewL l)) e).length = (runB (fewL l)).length := XO_len he
          have hbn := burst_none g he (burst_32 hB hk0) hc' hbf hcb'
          have hpN : parP (XO (runB (fewL l)) e) = none := by
            cases hq : idxP (XO (runB (fewL l)) e) with
            | none => exact parP_a hq
            | some z => exact parP_b hq (hbn z hq)
          refine Zk<|Zs<|Zr<|Zom rfl rfl ?_
          have q22 := hM0.slF KB_flat 0 (fun _ _ => Nat.zero_le _)
          obtain ⟨A22, c22, rfl, hc22, hs22⟩ := q22
          refine Zc (X.callE (Parse_c _ hs22 Zz Zz Zz (hTb.keep hk) (fun z out h1 h2 => absurd h2 (by rw [hbn z h1]; simp))) Tryz.call27 rfl rfl) rfl ?_
          rintro rp w21 ⟨hpm, hk21⟩
          rw [hpN] at hpm
          obtain rfl : rp = _ := hpm
          have hk21' := hk21.size
          refine Zom rfl rfl<|Zo (X.extr rfl rfl) rfl<|Zo (X.extr rfl rfl) rfl<|Zoa rfl rfl<|Zoai rfl rfl<|Ze<|Zs<|Zr<|Zomi rfl rfl<|X.opP X.wN rfl rfl (X.eqI rfl rfl) (fun h159 => ?_) (fun h159 => ?_)
          ·refine Zomt rfl rfl<|X.opE (X.wG rfl rfl rfl) rfl (X.callE (ralive_c _ (hTb.keep (hk.trans hk21))) Zc11 rfl rfl) ?_
           rintro _ w23 ⟨rfl, hk23⟩
           have hk23' := hk23.size
           refine Zo (ZdTo rfl rfl) rfl<|Zoao rfl rfl<|Ze<|X.ret1 (v := (.bool _)) Zf7 Zr7 rfl ?_
           exact ⟨rfl, ((hk.trans hk21).trans hk23)⟩
          ·exact absurd rfl h159
       ·refine Ze<|Zf rfl<|Zk<|Zi<|Zr<|Zomi rfl rfl<|Zo (X.add rfl rfl (X.w_i64 Zz)) rfl<|Zoai rfl rfl<|Ze ?_
        refine hback (i + 1) _ _ ⟨rfl, rfl, rfl, rfl, rfl, rfl, trivial⟩ ⟨by omega, fun j c2 hj h => by
          by_cases e : j = i
          ·subst e; rw [hc'] at h; cases h; omega
          ·exact hbf j c2 Zz h, hk, hkC⟩ Zz
      ·exfalso
       have h0 := hbf ((cutsN (fewL l)).length - 1) _ (by have := cuts_pos (fewL l); omega) (cuts_last (fewL l))
       omega
theorem RunBursts_c (w : World) (hTb : TabOk w) (A : Option Addr) (n c : Nat) (l : List CD) (hnc : n ≤ c) (hs : Sl KC 0 w.heap.size w A n l) (a1 : Int) (g1 : okI a1) (a2 : Int) (g2 : (Lit.int .u32 a2).wf = true) : Ret Tryz.prog 7 #[.slice A n c, .int .i64 a1, .int .u32 a2] w fun r w' => r = .bool true ∧ Keep w w' := by
  obtain ⟨bits, rfl⟩ : ∃ a : R32, a2 = (a.toNat : Int) := by
    simp only [Lit.wf, Bool.and_eq_true, decide_eq_true_eq] at g2
    have h0 : IntKind.u32.min = 0 := rfl
    have h1 : IntKind.u32.max = 4294967295 := rfl
    exact ⟨BitVec.ofNat 32 a2.toNat, by rw [BitVec.toNat_ofNat]; omega⟩
  exact RunBursts_w w hTb A n c l hnc hs a1 bits
end Go.Proofs.YtbljooblpfdbiaaGreatDoor
