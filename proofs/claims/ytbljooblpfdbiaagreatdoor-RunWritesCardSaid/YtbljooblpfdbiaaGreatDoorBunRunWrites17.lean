/- Texts that the proof of RunWrites stands on, part 17. -/
import Derived.Test.YtbljooblpfdbiaaGreatDoorProg
import Derived.Test.YtbljooblpfdbiaaGreatDoorBunRunWrites16
set_option linter.unusedSimpArgs false
set_option linter.unusedVariables false
namespace Go.Proofs.YtbljooblpfdbiaaGreatDoor
open Go Go.Proofs.YtbljooblpfdbiaaGreatDoor.X
theorem low4_step (k i : Nat) (hi : i < 4) : (low4 k).take (i + 1) = (low4 k).take i ++ [UInt8.ofNat (k / 2 ^ (8 * i))] := by
  have h : i = 0 ∨ i = 1 ∨ i = 2 ∨ i = 3 := by omega
  rcases h with rfl | rfl | rfl | rfl
  · show [UInt8.ofNat k] = [] ++ [UInt8.ofNat (k / 2 ^ 0)]
    rw [Nat.pow_zero, Nat.div_one]; rfl
  · rfl
  · rfl
  · rfl
theorem rem_u8 (n : Nat) : IntKind.u8.wrap (((n : Int).tmod 256)) = ((UInt8.ofNat n).toNat : Int) := by
  rw [show (n : Int).tmod 256 = ((n % 256 : Nat) : Int) from by rw [Int.tmod_eq_emod_of_nonneg (by omega)]; rfl, tail_0]
  congr 1
  rw [UInt8.toNat_ofNat', UInt8.toNat_ofNat']; omega
theorem quo_256 (n : Nat) : (n : Int).tdiv 256 = ((n / 256 : Nat) : Int) := by rw [Int.tdiv_eq_ediv_of_nonneg (by omega)]; rfl
theorem pow_step (k i : Nat) : k / 2 ^ (8 * i) / 256 = k / 2 ^ (8 * (i + 1)) := by
  rw [Nat.div_div_eq_div_mul, show (256 : Nat) = 2 ^ 8 from rfl, ← Nat.pow_add]; congr 2
theorem kct_tight {lo hi lo' hi' : Nat} {w : World} {A : Option Addr} {n : Nat} {l : List CT} (h : Sl KCt lo hi w A n l) (hT : ∀ k, lo ≤ k → k < hi → lo' ≤ k ∧ k < hi') : Sl KCt lo' hi' w A n l := by
  refine ⟨h.len, h.bound, fun hn => ?_⟩
  obtain ⟨ad, e, a1, a2, a3⟩ := h.at_ hn
  have hb := hT _ a1 a2
  exact ⟨ad, e, hb.1, hb.2, fun j y hy => by
    obtain ⟨cs, hr, hcc⟩ := a3 j y hy
    exact ⟨cs, KCt_flat hr, hcc⟩⟩
theorem pg_kc {lo hi : Nat} {w0 w : World} {TB : Nat → Prop} {x : HH} {p : List CD} (h : (NdPg lo hi w0).R TB w x p) (hTB : ∀ k, TB k → k < w.heap.size) (hk : Keep w0 w) (hhi : hi ≤ w0.heap.size) : x.2.1 ≤ x.2.2 ∧ Sl KC 0 w.heap.size w x.1 x.2.1 p := by
  obtain ⟨h1, L, h2, lo', hi', h3, h4⟩ := h
  have hz := hk.size
  exact ⟨h1, hd_kc (kct_tight h4 fun k a b => ⟨Nat.zero_le _, hTB k (h3 k a b)⟩) ⟨h2.1, fun i y hy => let ⟨q, a, b, c, d, e⟩ := h2.2 i y hy; ⟨q, a, b, c, d, (e.keep hk).wide (Nat.zero_le _) (by omega)⟩⟩⟩
def PgR (w : World) (A : Option Addr) (n : Nat) (ps : List (List CD)) : Prop := ∃ LP : List HH, Sl KH 0 w.heap.size w A n LP ∧ LP.length = ps.length ∧ ∀ (j : Nat) (x : HH), LP[j]? = some x → ∃ p, ps[j]? = some p ∧ x.2.1 ≤ x.2.2 ∧ Sl KC 0 w.heap.size w x.1 x.2.1 p
theorem nrow_pg {lo hi tb base m' : Nat} {w0 w : World} {S G : Nat → Prop} {v : Value} {L : List HH} {ps : List (List CD)} (h : NRow (NdPg lo hi w0) tb base m' S G w v L ps) (hk : Keep w0 w) (hhi : hi ≤ w0.heap.size) : ∃ A c, v = .slice A ps.length c ∧ ps.length ≤ c ∧ PgR w A ps.length ps := by
  obtain ⟨A, c, e, hc, hs⟩ := h.rd
  refine ⟨A, c, e, hc, L, hs.wide (Nat.zero_le _) h.l1, h.d.1, fun j x hx => ?_⟩
  obtain ⟨p, hp, hR⟩ := h.d.2 j x hx
  exact ⟨p, hp, pg_kc hR (fun k a => (h.g k a).2) hk hhi⟩
set_option maxHeartbeats 4000000 in
set_option maxRecDepth 100000 in
theorem Rtail_c (k : Nat) (hkk : k ≤ 1000000000) (w : World) : Ret Tryz.prog 60 #[.int .i64 (k : Int)] w fun r w' => FreshB w w' r (tailB k) := by
  refine X.enter Tryz.func60 rfl Tryz.ntmps60 rfl ?_
  refine X.seq ?_
  refine X.region ?_
  refine X.opw X.wN rfl (X.assign rfl) ?_
  refine X.opsEnd ?_
  refine X.seq ?_
  refine X.region ?_
  refine X.opw X.wN rfl (X.assign rfl) ?_
  refine X.opsEnd ?_
  refine X.seq ?_
  refine X.seq ?_
  refine X.region ?_
  refine X.opw X.wN rfl (X.assign rfl) ?_
  refine X.opsEnd ?_
  refine X.block ?_
  refine X.loopL (σ := Nat × Nat × Value) (fun s => [(0, .int .i64 (s.2.1 : Int)), (3, s.2.2), (4, .int .i64 (s.1 : Int))]) (fun s w' => s.1 ≤ 4 ∧ s.2.1 = k / 2 ^ (8 * s.1) ∧ Mine KB 5 (fun q => w.heap.size ≤ q) 0 0 w' s.2.2 ((low4 k).take s.1) ∧ Keep w w') (fun s => 4 - s.1) (0, k, .slice none 0 0) ⟨rfl, rfl, rfl, trivial⟩ ⟨Nat.zero_le _, by simp, Mine.nil _ _ _ _ _ _, (Keep.refl _)⟩ ?_
  rintro ⟨i, n, v⟩ b wo ⟨hi, hn, hM, hk⟩ hback
  dsimp only
  dsimp only at hi hn hM
  have hk0 := hk.size
  refine X.seq ?_
  refine X.seq ?_
  refine X.region ?_
  refine X.opw X.wN rfl (X.move (v := .int .i64 _) rfl) ?_
  refine X.opP X.wN rfl rfl (X.lss rfl rfl) (fun h6 => ?_) (fun h6 => ?_)
  · have hdk : k / 2 ^ (8 * i) ≤ k := Nat.div_le_self _ _
    rw [← hn] at hdk
    refine X.opsEnd ?_
    refine X.condT rfl ?_
    refine X.skip ?_
    refine X.seq ?_
    refine X.block ?_
    refine X.seq ?_
    refine X.region ?_
    refine X.opw X.wN rfl (X.move rfl) ?_
    refine X.opw X.wN rfl (X.move (v := .int .i64 _) rfl) ?_
    refine X.opw X.wN rfl (X.rem rfl rfl (by decide) rfl) ?_
    refine X.opw X.wN rfl (X.cvI Tryz.underlying3 Tryz.underlying5 rfl (rem_u8 _)) ?_
    refine X.opE X.wN rfl (X.lit1B Tryz.underlying43 Tryz.sizeOf5 Tryz.zeroValue5 rfl) ?_
    rintro _ w1 ⟨rfl, hs1, hB1, hk1, hz1⟩
    refine X.opE X.wN rfl (X.appE (K := KB) (S := fun k => w.heap.size ≤ k) KB_flat Tryz.underlying43 E5 rfl rfl (hM.keep hk1) hs1 zq9 zq26) ?_
    rintro v2 w2 ⟨hM2, hx2⟩
    have hx2' := hx2.size
    refine X.opw X.wN rfl (X.assign rfl) ?_
    refine X.opsEnd ?_
    refine X.region ?_
    refine X.opw X.wN rfl (X.move (v := .int .i64 _) rfl) ?_
    refine X.opw X.wN rfl (X.quo (c := ((n / 256 : Nat) : Int)) rfl rfl (by decide) (by rw [quo_256]; exact X.w_i64 (by have := Nat.div_le_self n 256; omega))) ?_
    refine X.opw X.wN rfl (X.assign (v := .int .i64 _) rfl) ?_
    refine X.opsEnd ?_
    refine X.inBlock ?_
    refine X.region ?_
    refine X.opw X.wN rfl (X.move (v := .int .i64 _) rfl) ?_
    refine X.opw X.wN rfl (X.add rfl rfl (X.w_i64 (by omega))) ?_
    refine X.opw X.wN rfl (X.assign (v := .int .i64 _) rfl) ?_
    refine X.opsEnd ?_
    refine hback (i + 1, n / 256, v2) _ _ ⟨rfl, rfl, rfl, trivial⟩ ⟨by omega, by rw [hn, pow_step], by rw [low4_step k i (by omega), ← hn]; exact hM2, ((hk.trans hk1).step hx2 zq26)⟩ (by (try dsimp only); omega)
  · have hi4 : i = 4 := by omega
    subst hi4
    rw [show (low4 k).take 4 = low4 k from rfl] at hM
    refine X.opsEnd ?_
    refine X.condF rfl ?_
    refine X.exit rfl ?_
    refine X.seq ?_
    refine X.region ?_
    refine X.opw X.wN rfl (X.move rfl) ?_
    have q4 := hM.slF KB_flat 0 (fun _ _ => Nat.zero_le _)
    obtain ⟨A4, c4, rfl, hc4, hs4⟩ := q4
    refine X.opE X.wN rfl (X.callE (RSeal_c _ hs4 (by rw [low4_len]; omega)) Tryz.call59 rfl rfl) ?_
    rintro v3 w3 ⟨hM3, hk3⟩
    have hk3' := hk3.size
    refine X.opw X.wN rfl (X.assign rfl) ?_
    refine X.opsEnd ?_
    refine X.ret1 Tryz.func60 Tryz.results60 rfl ?_
    exact ⟨(hM3).mono (fun q _ h => by have h : _ ≤ q := h; omega), (hk.trans hk3)⟩
end Go.Proofs.YtbljooblpfdbiaaGreatDoor
namespace Go.Proofs.YtbljooblpfdbiaaGreatDoor
open Go Go.Proofs.YtbljooblpfdbiaaGreatDoor.X
theorem flt_take {α β : Type} {ps : List α} {i : Nat} {p : α} (f : α → List β) (h : ps[i]? = some p) : (ps.take (i + 1)).flatMap f = (ps.take i).flatMap f ++ f p := by
  rw [List.take_add_one, h]; simp
theorem flt_le {α β : Type} (f : α → List β) (ps : List α) (i : Nat) : ((ps.take i).flatMap f).length ≤ (ps.flatMap f).length := by
  have h := congrArg (fun z => (z.flatMap f).length) (List.take_append_drop i ps)
  simp only [List.flatMap_append, List.length_append] at h
  omega
theorem RPages_r {lo hi : Nat} {A : Option Addr} {n c : Nat} {l : List CD} (w : World) (hs : Sl KC lo hi w A n l) (hhi : hi ≤ w.heap.size) (hn : n ≤ 100) (hok : Oks l) : Ret Tryz.prog 22 #[.slice A n c] w fun r w' => ∃ A' c', r = .slice A' (pgs l).length c' ∧ (pgs l).length ≤ c' ∧ PgR w' A' (pgs l).length (pgs l) ∧ Keep w w' :=
  (RPages_c w hs hhi hn hok).mono fun r w' ⟨v, L, m, S, G, e, hN, hk⟩ => let ⟨A', c', e2, hc, hP⟩ := nrow_pg hN hk hhi; ⟨A', c', by rw [e, e2], hc, hP, hk⟩
set_option maxHeartbeats 4000000 in
set_option maxRecDepth 100000 in
theorem RBytes_c {lo hi : Nat} {A : Option Addr} {n c : Nat} {l : List CD} (w : World) (hs : Sl KC lo hi w A n l) (hhi : hi ≤ w.heap.size) (hnc : n ≤ c) (hn : n ≤ 100) (hok : Oks l) : Ret Tryz.prog 19 #[.slice A n c] w fun r w' => ∃ v, r = .tuple #[v, .int .i64 (if isR l then 0 else 70)] ∧ FreshB w w' v (if isR l then runB l else []) := by
  obtain ⟨L, hsL, hLl, hLt⟩ := kc_hd hs
  have hsl := hs.len
  have hsb := hs.bound
  subst hsl
  refine X.enter Tryz.func19 rfl Tryz.ntmps19 rfl ?_
  refine X.seq ?_
  refine X.region ?_
  refine X.opw X.wN rfl (X.assign rfl) ?_
  refine X.opw X.wN rfl (X.assign rfl) ?_
  refine X.opsEnd ?_
  refine X.seq ?_
  refine X.seq ?_
  refine X.region ?_
  refine X.opw X.wN rfl (X.move (v := .slice _ _ _) rfl) ?_
  refine X.opE X.wN rfl (X.callE (RIs_c _ hs (by omega)) Tryz.call10 rfl rfl) ?_
  rintro _ w1 ⟨rfl, hk1⟩
  have hk1' := hk1.size
  refine X.opw X.wN rfl (X.not_ rfl) ?_
  refine X.opsEnd ?_
  refine X.condB rfl (fun hc13 => ?_) (fun hc13 => ?_)
  · have hr : isR l = false := by
      cases hq : isR l with
      | false => rfl
      | true => rw [hq] at hc13; exact absurd hc13 (by decide)
    refine X.seq ?_
    refine X.region ?_
    refine X.opw X.wN rfl (X.assign rfl) ?_
    refine X.opw X.wN rfl (X.assign rfl) ?_
    refine X.opsEnd ?_
    refine X.ret2 (v2 := (.int .i64 _)) Tryz.func19 Tryz.results19 rfl rfl ?_
    rw [hr]
    exact ⟨_, rfl, Mine.nil _ _ _ _ _ _, hk1⟩
  · have hr : isR l = true := by
      cases hq : isR l with
      | true => rfl
      | false => rw [hq] at hc13; exact absurd hc13 (by decide)
    obtain ⟨z1, z2, z3, z4⟩ := run_sizes hok hr (by omega)
    have z5 := pgs_len l
    have z6 := numB_le (k := (pgs l).length) (by omega)
    have z7 := numB_le (k := l.length) (by omega)
    have z3' : (sealC (numB (pgs l).length ++ numB l.length ++ (pgs l).flatMap leafB)).length ≤ 420100 := z3
    have z8 : (tailB (idxB (pgs l) l.length).length).length ≤ 100 := by rw [tailB, seal_len, low4_len]; omega
    refine X.skip ?_
    refine X.seq ?_
    refine X.region ?_
    refine X.opw X.wN rfl (X.move (v := .slice _ _ _) rfl) ?_
    refine X.opE X.wN rfl (X.callE (RPages_r _ (hs.keep hk1) (by omega) hn hok) Tryz.call22 rfl rfl) ?_
    rintro _ w2 ⟨Ap, cp, rfl, hcp, ⟨LP, hsP, hPl, hPt⟩, hk2⟩
    obtain ⟨wP, hwP⟩ : ∃ wP, wP = w2 := ⟨_, rfl⟩
    subst hwP
    have hkP0 := hk2.size
    have hk2' := hk2.size
    refine X.opw X.wN rfl (X.assign rfl) ?_
    refine X.opsEnd ?_
    refine X.seq ?_
    refine X.region ?_
    refine X.opw X.wN rfl (X.assign rfl) ?_
    refine X.opsEnd ?_
    refine X.seq ?_
    refine X.region ?_
    refine X.opw X.wN rfl (X.move rfl) ?_
    refine X.opw X.wN rfl (X.lenSl Tryz.underlying48 rfl) ?_
    refine X.opw X.wN rfl (X.cvI Tryz.underlying3 Tryz.underlying119 rfl (X.w_u64 (by omega))) ?_
    refine X.opE X.wN rfl (X.callE (RNumN_c _ (by omega) _) Tryz.call55 rfl rfl) ?_
    rintro v3 w3 ⟨hM3, hk3⟩
    have hk3' := hk3.size
    refine X.opw X.wN rfl (X.move (v := .slice _ _ _) rfl) ?_
    refine X.opw X.wN rfl (X.lenSl Tryz.underlying22 rfl) ?_
    refine X.opw X.wN rfl (X.cvI Tryz.underlying3 Tryz.underlying119 rfl (X.w_u64 (by omega))) ?_
    refine X.opE X.wN rfl (X.callE (RNumN_c _ (by omega) _) Tryz.call55 rfl rfl) ?_
    rintro v4 w4 ⟨hM4, hk4⟩
    have hk4' := hk4.size
    have q6 := hM4.slF KB_flat 0 (fun _ _ => Nat.zero_le _)
    obtain ⟨A6, c6, rfl, hc6, hs6⟩ := q6
    refine X.opE X.wN rfl (X.appE (K := KB) (S := fun k => wP.heap.size ≤ k) KB_flat Tryz.underlying43 E5 rfl rfl (((hM3.keep hk4)).mono (fun k _ h => by have h : _ ≤ k := h; show _ ≤ k; omega)) hs6 (by omega) (fun k h => by show _ ≤ k; omega)) ?_
    rintro v24 w5 ⟨hM24, hx5⟩
    have hx5' := hx5.size
    refine X.opw X.wN rfl (X.assign rfl) ?_
    refine X.opsEnd ?_
    refine X.seq ?_
    refine X.seq ?_
    refine X.region ?_
    refine X.opw X.wN rfl (X.assign rfl) ?_
    refine X.opsEnd ?_
    refine X.block ?_
    have hKP := (hk1.trans hk2)
    have hkT := ((((Keep.refl wP).trans hk3).trans hk4).step hx5 (by intro q g1; have g1 : _ ≤ q := g1; omega))
    have hR0 : R2 5 wP.heap.size w5.heap.size w5.heap.size (fun _ => False) (fun k => wP.heap.size ≤ k ∧ k < w5.heap.size) w5 (.slice none 0 0) v24 [] (numB (pgs l).length ++ numB l.length) := ⟨Mine.nil _ _ _ _ _ _, hM24.mono (fun k a b => ⟨b, a⟩), fun _ h => h.elim, fun k h => h, Nat.le_refl _, Nat.le_refl _, fun _ h => h.elim, by omega⟩
    refine X.loopL (σ := Nat × Value × Value) (fun s => [(4, .slice Ap (pgs l).length cp), (5, s.2.1), (6, s.2.2), (7, .int .i64 (s.1 : Int))]) (fun s w' => s.1 ≤ (pgs l).length ∧ Keep wP w' ∧ ∃ S1 S2, R2 5 wP.heap.size w'.heap.size w'.heap.size S1 S2 w' s.2.1 s.2.2 (((pgs l).take s.1).flatMap pageB) ((numB (pgs l).length ++ numB l.length) ++ ((pgs l).take s.1).flatMap leafB)) (fun s => (pgs l).length - s.1) (0, .slice none 0 0, v24) ⟨rfl, rfl, rfl, rfl, trivial⟩ ⟨Nat.zero_le _, hkT, _, _, by simpa using hR0⟩ ?_
    rintro ⟨i, va, vb⟩ b wo ⟨hi, hkL, S1, S2, hR⟩ hback
    dsimp only
    dsimp only at hi hR
    have hkL0 := hkL.size
    have hf1 := flt_le pageB (pgs l) i
    have hf2 := flt_le leafB (pgs l) i
    refine X.seq ?_
    refine X.seq ?_
    refine X.region ?_
    refine X.opw X.wN rfl (X.move (v := .int .i64 _) rfl) ?_
    refine X.opw X.wN rfl (X.move (v := .slice _ _ _) rfl) ?_
    refine X.opw X.wN rfl (X.lenSl Tryz.underlying48 rfl) ?_
    refine X.opP X.wN rfl rfl (X.lss rfl rfl) (fun h28 => ?_) (fun h28 => ?_)
    · obtain ⟨x, hx⟩ : ∃ x, LP[i]? = some x := ⟨_, List.getElem?_eq_getElem (by omega)⟩
      obtain ⟨p, hp, hxc, hsp⟩ := hPt _ _ hx
      have hpm := List.mem_of_getElem? hp
      have hokp : Oks p := hok.sub (pgs_sub hpm)
      have hpn := pgs_plen hpm
      have hxl := hsp.len
      obtain ⟨q0, hq0, hh0⟩ := head_at (pgs_ne hpm)
      have hp0 := (List.getElem?_eq_some_iff.1 hq0).1
      obtain ⟨Lx, hsx, hLxl, hLxt⟩ := kc_hd hsp
      obtain ⟨x0, hx0⟩ : ∃ x0, Lx[0]? = some x0 := ⟨_, List.getElem?_eq_getElem (by omega)⟩
      obtain ⟨q1, hq1, _, _, _, ht0⟩ := hLxt _ _ hx0
      rw [hq0] at hq1
      cases hq1
      have hf3 := flt_le leafB (pgs l) (i + 1)
      rw [flt_take leafB hp, List.length_append, leafB, List.length_append, hh0] at hf3
      have hqT := isR_T' hr q0 (pgs_sub hpm q0 (List.mem_of_getElem? hq0))
      have hqk := (tup_le (hokp q0 (List.mem_of_getElem? hq0)).2 hqT.1).2
      have hpb := pageB_le hokp (by omega)
      have hn1 := numB_le (k := (pageB p).length) (by omega)
      have hn2 := textB_len (l := keyB q0.1) (by omega)
      have hkT : (if isT q0.1 = true then keyB q0.1 else []) = keyB q0.1 := if_pos hqT.1
      have hf4 := flt_le pageB (pgs l) (i + 1)
      rw [flt_take pageB hp, List.length_append] at hf4
      refine X.opsEnd ?_
      refine X.condT rfl ?_
      refine X.skip ?_
      refine X.seq ?_
      refine X.block ?_
      refine X.seq ?_
      refine X.region ?_
      refine X.opw X.wN rfl (X.move (v := .slice _ _ _) rfl) ?_
      refine X.opw X.wN rfl (X.move (v := .int .i64 _) rfl) ?_
      refine X.opw X.wN rfl (X.idxS (hsP.keep hkL) Tryz.underlying48 Tryz.sizeOf22 rfl rfl ⟨by omega, by omega⟩) ?_
      refine X.opw X.wN rfl (X.loadS Tryz.isAgg22 (hsP.keep hkL) hx rfl (fun _ h => by rw [h.1]; rfl)) ?_
      refine X.opE X.wN rfl (X.callE (RpageBytes_c _ (hsp.keep hkL) (by omega) (by omega) hokp hxc) Tryz.call56 rfl rfl) ?_
      rintro v7 w7 ⟨hM7, hk7⟩
      have hk7' := hk7.size
      refine X.opw X.wN rfl (X.assign rfl) ?_
      refine X.opsEnd ?_
      refine X.seq ?_
      refine X.region ?_
      refine X.opw X.wN rfl (X.move rfl) ?_
      refine X.opw X.wN rfl (X.move rfl) ?_
      have q9 := hM7.slF KB_flat 0 (fun _ _ => Nat.zero_le _)
      obtain ⟨A9, c9, rfl, hc9, hs9⟩ := q9
      refine X.opE X.wN rfl (R2.appA (hR.keep hk7) hs9 Tryz.underlying43 E5 rfl rfl (by first | omega | (simp only [List.length_append, List.length_nil]; omega))) ?_
      rintro _ w8 ⟨Aq8, cq8, S8, rfl, hR8, hx8⟩
      have hx8' := hx8.size
      refine X.opw X.wN rfl (X.assign rfl) ?_
      refine X.opsEnd ?_
      refine X.seq ?_
      refine X.region ?_
      refine X.opw X.wN rfl (X.move (v := .slice _ _ _) rfl) ?_
      refine X.opw X.wN rfl (X.move (v := .int .i64 _) rfl) ?_
      refine X.opw X.wN rfl (X.idxS (hsP.keep ((hkL.trans hk7).step hx8 zq26)) Tryz.underlying48 Tryz.sizeOf22 rfl rfl ⟨by omega, by omega⟩) ?_
      refine X.opw X.wN rfl (X.loadS Tryz.isAgg22 (hsP.keep ((hkL.trans hk7).step hx8 zq26)) hx rfl (fun _ h => by rw [h.1]; rfl)) ?_
      refine X.opw X.wN rfl (X.idxS (hsx.keep ((hkL.trans hk7).step hx8 zq26)) Tryz.underlying22 Tryz.sizeOf40 rfl rfl ⟨by omega, by omega⟩) ?_
      refine X.opw X.wN rfl (X.fldA Tryz.underlying40 rfl rfl Tryz.sizeOf38) ?_
      refine X.opw X.wN rfl (X.loadSf (o := 0) Tryz.isAgg38 (hsx.keep ((hkL.trans hk7).step hx8 zq26)) (j := 0) hx0 rfl (fun _ h => by rw [h.1]; rfl)) ?_
      refine X.opE X.wN rfl (X.callE (RKey_c _ (ht0.keep ((hkL.trans hk7).step hx8 zq26)) (by omega)) Tryz.call57 rfl rfl) ?_
      rintro _ w10 ⟨v10, rfl, hM10, hk10⟩
      rw [hkT] at hM10
      have hk10' := hk10.size
      refine X.opw X.wN rfl (X.move rfl) ?_
      refine X.opw X.wN rfl (X.extr rfl rfl) ?_
      refine X.opw X.wN rfl (X.extr rfl rfl) ?_
      refine X.opw X.wN rfl (X.assign rfl) ?_
      refine X.opw X.wN rfl (X.assign (v := .int .i64 _) rfl) ?_
      refine X.opsEnd ?_
      refine X.region ?_
      refine X.opw X.wN rfl (X.move rfl) ?_
      refine X.opw X.wN rfl (X.move rfl) ?_
      refine X.opw X.wN rfl (X.lenSl Tryz.underlying43 rfl) ?_
      refine X.opw X.wN rfl (X.cvI Tryz.underlying3 Tryz.underlying119 rfl (X.w_u64 (by omega))) ?_
      refine X.opE X.wN rfl (X.callE (RNumN_c _ (by omega) _) Tryz.call55 rfl rfl) ?_
      rintro v11 w11 ⟨hM11, hk11⟩
      have hk11' := hk11.size
      have q13 := hM11.slF KB_flat 0 (fun _ _ => Nat.zero_le _)
      obtain ⟨A13, c13, rfl, hc13, hs13⟩ := q13
      refine X.opE X.wN rfl (R2.appB (hR8.keep (hk10.trans hk11)) hs13 Tryz.underlying43 E5 rfl rfl (by first | omega | (simp only [List.length_append, List.length_nil]; omega))) ?_
      rintro _ w12 ⟨Aq12, cq12, S12, rfl, hR12, hx12⟩
      have hx12' := hx12.size
      refine X.opw X.wN rfl (X.move rfl) ?_
      have q15 := ((hM10.keep hk11).ext hx12 zq28 zq28).slF KB_flat 0 (fun _ _ => Nat.zero_le _)
      obtain ⟨A15, c15, rfl, hc15, hs15⟩ := q15
      refine X.opE X.wN rfl (X.callE (RText_c _ hs15 (by omega)) Tryz.call58 rfl rfl) ?_
      rintro v14 w14 ⟨hM14, hk14⟩
      have hk14' := hk14.size
      have q17 := hM14.slF KB_flat 0 (fun _ _ => Nat.zero_le _)
      obtain ⟨A17, c17, rfl, hc17, hs17⟩ := q17
      refine X.opE X.wN rfl (R2.appB (hR12.keep hk14) hs17 Tryz.underlying43 E5 rfl rfl (by first | omega | (simp only [List.length_append, List.length_nil]; omega))) ?_
      rintro _ w16 ⟨Aq16, cq16, S16, rfl, hR16, hx16⟩
      have hx16' := hx16.size
      refine X.opw X.wN rfl (X.assign rfl) ?_
      refine X.opsEnd ?_
      refine X.inBlock ?_
      refine X.region ?_
      refine X.opw X.wN rfl (X.move (v := .int .i64 _) rfl) ?_
      refine X.opw X.wN rfl (X.add rfl rfl (X.w_i64 (by omega))) ?_
      refine X.opw X.wN rfl (X.assign (v := .int .i64 _) rfl) ?_
      refine X.opsEnd ?_
      refine hback (i + 1, _, _) _ _ ⟨rfl, rfl, rfl, rfl, trivial⟩ ⟨by omega, (((((((hkL.trans hk7).step hx8 (by intro q g1; first | (have g1 : _ ≤ q ∧ _ := g1; omega) | (have g1 : _ ≤ q := g1; omega))).trans hk10).trans hk11).step hx12 (by intro q g1; first | (have g1 : _ ≤ q ∧ _ := g1; omega) | (have g1 : _ ≤ q := g1; omega))).trans hk14).step hx16 (by intro q g1; first | (have g1 : _ ≤ q ∧ _ := g1; omega) | (have g1 : _ ≤ q := g1; omega))), _, _, by have hRn := (hR16).all; rw [flt_take pageB hp, flt_take leafB hp, leafB, hh0]; simp only [List.append_assoc] at hRn ⊢; exact hRn⟩ (by (try dsimp only); omega)
    · have hil : i = (pgs l).length := by omega
      subst hil
      rw [List.take_length] at hR hf1 hf2
      obtain ⟨Ar1, cr1, Ar2, cr2, rfl, rfl, hcr1, hcr2, hsr1, hsr2⟩ := hR.rd
      refine X.opsEnd ?_
      refine X.condF rfl ?_
      refine X.exit rfl ?_
      refine X.seq ?_
      refine X.region ?_
      refine X.opw X.wN rfl (X.move (v := .slice _ _ _) rfl) ?_
      refine X.opE X.wN rfl (X.callE (RSeal_c _ hsr2 (by simp only [List.length_append]; omega)) Tryz.call59 rfl rfl) ?_
      rintro v18 w18 ⟨hM18, hk18⟩
      have hk18' := hk18.size
      refine X.opw X.wN rfl (X.assign rfl) ?_
      refine X.opsEnd ?_
      refine X.seq ?_
      refine X.region ?_
      refine X.opw X.wN rfl (X.move rfl) ?_
      refine X.opw X.wN rfl (X.move rfl) ?_
      have q20 := hM18.slF KB_flat 0 (fun _ _ => Nat.zero_le _)
      obtain ⟨A20, c20, rfl, hc20, hs20⟩ := q20
      refine X.opE X.wN rfl (R2.appA (hR.keep hk18) hs20 Tryz.underlying43 E5 rfl rfl (by first | omega | (simp only [List.length_append, List.length_nil]; omega))) ?_
      rintro _ w19 ⟨Aq19, cq19, S19, rfl, hR19, hx19⟩
      have hx19' := hx19.size
      refine X.opw X.wN rfl (X.move rfl) ?_
      refine X.opw X.wN rfl (X.lenSl Tryz.underlying43 rfl) ?_
      refine X.opE X.wN rfl (X.callE (Rtail_c (idxB (pgs l) l.length).length (by omega) _) Tryz.call60 rfl rfl) ?_
      rintro v21 w21 ⟨hM21, hk21⟩
      have hk21' := hk21.size
      have q23 := hM21.slF KB_flat 0 (fun _ _ => Nat.zero_le _)
      obtain ⟨A23, c23, rfl, hc23, hs23⟩ := q23
      refine X.opE X.wN rfl (R2.appA (hR19.keep hk21) hs23 Tryz.underlying43 E5 rfl rfl (by first | omega | (simp only [List.length_append, List.length_nil]; omega))) ?_
      rintro _ w22 ⟨Aq22, cq22, S22, rfl, hR22, hx22⟩
      have hx22' := hx22.size
      refine X.opw X.wN rfl (X.assign rfl) ?_
      refine X.opw X.wN rfl (X.assign rfl) ?_
      refine X.opsEnd ?_
      refine X.ret2 (v2 := (.int .i64 _)) Tryz.func19 Tryz.results19 rfl rfl ?_
      have hRf := hR22
      rw [hr]
      exact ⟨_, rfl, (hRf.a.mono fun k _ hk => by have := hRf.s1 k hk; show _ ≤ k; omega), hKP.trans ((((hkL.trans hk18).step hx19 (by intro q g1; first | (have g1 : _ ≤ q ∧ _ := g1; omega) | (have g1 : _ ≤ q := g1; omega))).trans hk21).step hx22 (by intro q g1; first | (have g1 : _ ≤ q ∧ _ := g1; omega) | (have g1 : _ ≤ q := g1; omega)))⟩
end Go.Proofs.YtbljooblpfdbiaaGreatDoor
namespace Go.Proofs.YtbljooblpfdbiaaGreatDoor
open Go Go.Proofs.YtbljooblpfdbiaaGreatDoor.X
set_option maxHeartbeats 4000000 in
set_option maxRecDepth 100000 in
theorem CloneC_c {lo hi : Nat} {A : Option Addr} {n c : Nat} {L : List CT} (w : World) (hs : Sl KCt lo hi w A n L) (h0 : 0 < n) (hn : n ≤ 1000) : Ret Tryz.prog 61 #[.slice A n c] w fun r w' => ∃ A' c', r = .slice A' n c' ∧ Mine KCt 40 (fun k => w.heap.size ≤ k) 0 0 w' (.slice A' n c') L ∧ Keep w w' := by
  have hl := hs.len
  refine X.enter Tryz.func61 rfl Tryz.ntmps61 rfl ?_
  refine X.seq ?_
  refine X.region ?_
  refine X.opw X.wN rfl (X.assign rfl) ?_
  refine X.opsEnd ?_
  refine X.seq ?_
  refine X.seq ?_
  refine X.region ?_
  refine X.opw X.wN rfl (X.move (v := .slice _ _ _) rfl) ?_
  refine X.opB X.wN rfl rfl (X.eqNil Tryz.underlying22 rfl rfl) (fun h4 => ?_) (fun h4 => ?_)
  · refine X.opsEnd ?_
    refine X.condT rfl ?_
    refine X.seq ?_
    refine X.region ?_
    refine X.opw X.wN rfl (X.assign rfl) ?_
    refine X.opsEnd ?_
    refine X.ret1 Tryz.func61 Tryz.results61 rfl ?_
    obtain ⟨ad, e, _⟩ := hs.at_ h0
    subst e
    simp at h4
  · refine X.opsEnd ?_
    refine X.condF rfl ?_
    refine X.skip ?_
    refine X.seq ?_
    refine X.region ?_
    refine X.opE X.wN rfl (X.lit0E (K := KCt) (S := fun k => w.heap.size ≤ k) Tryz.underlying22 Tryz.sizeOf40 zq26) ?_
    rintro v1 w1 ⟨hM1, hk1, hz1⟩
    refine X.opw X.wN rfl (X.move (v := .slice _ _ _) rfl) ?_
    refine X.opE X.wN rfl (X.appE (K := KCt) (S := fun k => w.heap.size ≤ k) KCt_flat Tryz.underlying22 ECt rfl rfl hM1 (hs.keep hk1) zq9 zq26) ?_
    rintro v2 w2 ⟨hM2, hx2⟩
    have hx2' := hx2.size
    refine X.opw X.wN rfl (X.assign rfl) ?_
    refine X.opsEnd ?_
    refine X.ret1 Tryz.func61 Tryz.results61 rfl ?_
    have hMx := hM2
    obtain ⟨A', c', e, hc', _⟩ := hMx.slice
    subst e
    have e2 : ([] ++ L).length = n := by simp [hl]
    rw [e2] at hMx hc'
    exact ⟨A', c', (by rw [e2]; rfl), hMx, (hk1.step hx2 zq26)⟩
end Go.Proofs.YtbljooblpfdbiaaGreatDoor
namespace Go.Proofs.YtbljooblpfdbiaaGreatDoor
open Go Go.Proofs.YtbljooblpfdbiaaGreatDoor.X
theorem HdC.back {lo hi : Nat} {w w' : World} {L : List CT} {p : List CD} {U : Nat → Prop} (h : HdC lo hi w' L p) (x : Ext U w w') (hU : ∀ k, lo ≤ k → k < hi → ¬ U k) (hhi : hi ≤ w.heap.size) : HdC lo hi w L p :=
  ⟨h.1, fun i y hy => let ⟨q, a, b, c, d, e⟩ := h.2 i y hy; ⟨q, a, b, c, d, e.move fun k h1 h2 _ => (x.keep k (by omega) (hU k h1 h2)).symm⟩⟩
set_option maxHeartbeats 4000000 in
set_option maxRecDepth 100000 in
theorem Pages_c {lo hi : Nat} {A : Option Addr} {n c : Nat} {l : List CD} (w : World) (hs : Sl KC lo hi w A n l) (hhi : hi ≤ w.heap.size) (hnc : n ≤ c) (hn : n ≤ 100) (hok : Oks l) : Ret Tryz.prog 20 #[.slice A n c] w fun r w' => ∃ v, r = .tuple #[v, .int .i64 (if isR l then 0 else 70)] ∧ (∃ L m S G, NRow (NdPg lo hi w) 22 w.heap.size m S G w' v L (if isR l then pgs l else [])) ∧ Keep w w' := by
  obtain ⟨L, hsL, hLl, hLt⟩ := kc_hd hs
  have hsl := hs.len
  have hsb := hs.bound
  subst hsl
  refine X.enter Tryz.func20 rfl Tryz.ntmps20 rfl ?_
  refine X.seq ?_
  refine X.region ?_
  refine X.opw X.wN rfl (X.assign rfl) ?_
  refine X.opw X.wN rfl (X.assign rfl) ?_
  refine X.opsEnd ?_
  refine X.seq ?_
  refine X.seq ?_
  refine X.region ?_
  refine X.opw X.wN rfl (X.move (v := .slice _ _ _) rfl) ?_
  refine X.opE X.wN rfl (X.callE (rCheck_c _ hs (by omega)) Tryz.call21 rfl rfl) ?_
  rintro _ w1 ⟨rfl, hk1⟩
  have hk1' := hk1.size
  refine X.opw X.wN rfl (X.assign (v := .int .i64 _) rfl) ?_
  refine X.opsEnd ?_
  refine X.seq ?_
  refine X.region ?_
  refine X.opw X.wN rfl (X.move (v := .int .i64 _) rfl) ?_
  refine X.opP X.wN rfl rfl (X.neI rfl rfl) (fun h10 => ?_) (fun h10 => ?_)
  · have hr : isR l = false := by
      cases hq : isR l with
      | false => rfl
      | true => rw [hq] at h10; exact absurd rfl h10
    refine X.opsEnd ?_
    refine X.condT rfl ?_
    refine X.seq ?_
    refine X.region ?_
    refine X.opw X.wN rfl (X.move (v := .int .i64 _) rfl) ?_
    refine X.opw X.wN rfl (X.assign rfl) ?_
    refine X.opw X.wN rfl (X.assign (v := .int .i64 _) rfl) ?_
    refine X.opsEnd ?_
    refine X.ret2 (v2 := (.int .i64 _)) Tryz.func20 Tryz.results20 rfl rfl ?_
    rw [hr]
    exact ⟨_, rfl, ⟨_, _, _, _, NRow.low (NRow.nil _ _ _ _ (Nat.le_refl _)) (by omega)⟩, hk1⟩
  · have hr : isR l = true := by
      cases hq : isR l with
      | true => rfl
      | false => rw [hq] at h10; exact absurd (by decide : ¬ (70 : Int) = 0) h10
    refine X.opsEnd ?_
    refine X.condF rfl ?_
    refine X.skip ?_
    refine X.seq ?_
    refine X.region ?_
    refine X.opE X.wN rfl (X.allocE Tryz.zeroValue48 rfl) ?_
    rintro _ w2 ⟨rfl, hB2, hk2, hz2⟩
    refine X.opsEnd ?_
    refine X.seq ?_
    refine X.seq ?_
    refine X.region ?_
    refine X.opw X.wN rfl (X.move (v := .slice _ _ _) rfl) ?_
    refine X.opE X.wN rfl (X.callE (pages_c _ _ _ _) Tryz.call49 rfl rfl) ?_
    rintro _ w3 ⟨rfl, hB3, hk3, hz3⟩
    refine X.opsEnd ?_
    refine X.block ?_
    refine X.rangeFunc' (cap := [.pointer (some ⟨w2.heap.size, 0, none⟩)]) (Q := fun w' => ∃ v L1 S1 G1, ∃ done : List (List CD), done = pgs l ∧ Blk w' w1.heap.size [v] 48 ∧ NRow (NdPg lo hi w) 22 (w3.heap.size + 2) w'.heap.size S1 G1 w' v L1 done ∧ w'.heap[w3.heap.size]? = some (.deferred (some [])) ∧ Ext (fun k => w.heap.size ≤ k) w w' ∧ (w3.heap.size + 2) ≤ w'.heap.size) rfl Tryz.call101 rfl rfl (fun rec wq T0 hr1 hr2 hr3 hr4 hrT hr5 hr6 hr7 hrl hrd kq zq => ?_) ?_
    · have zq' : wq.heap.size = w3.heap.size + 2 := zq
      refine (pages1_c _ w2.heap.size (fun k => w.heap.size ≤ k ∧ k ≠ w2.heap.size) (fun ps w' => ∃ v L1 S1 G1, ∃ done : List (List CD), done ++ ps = pgs l ∧ Blk w' w1.heap.size [v] 48 ∧ NRow (NdPg lo hi w) 22 (w3.heap.size + 2) w'.heap.size S1 G1 w' v L1 done ∧ w'.heap[(w3.heap.size + 1)]? = some (.loop rec) ∧ w'.heap[w3.heap.size]? = some (.deferred (some [])) ∧ Ext (fun k => w.heap.size ≤ k) w w' ∧ (w3.heap.size + 2) ≤ w'.heap.size) wq (hB3.keep kq) ((hs.keep ((hk1.trans hk2).trans hk3)).keep kq) (by omega) hnc hn hok (fun h => h.2 rfl) (fun k h1 h2 h3 => by have h3 : _ ≤ k ∧ _ := h3; omega) ?_ ?_ ?_).mono ?_
      · exact ⟨_, [], _, _, [], rfl, (hB2.keep hk3).keep kq, NRow.low (NRow.nil _ _ _ wq (Nat.le_refl _)) (by omega), hrl, hrd, ((((hk1.trans hk2).trans hk3)).trans kq).mono (fun _ _ h => h.elim), by omega⟩
      · rintro ps wu wv ⟨v, L1, S1, G1, done, h1, h2, hR, h5, h6, h7, h8⟩ x
        have hxz := x.size
        exact ⟨v, L1, S1, G1, done, h1, h2.keep x, (hR.keep x).all, (x.keep _ (Array.getElem?_eq_some_iff.1 h5).1 id).trans h5, (x.keep _ (Array.getElem?_eq_some_iff.1 h6).1 id).trans h6, h7.trans x (fun _ _ h => h) (fun _ _ h => h.elim), by omega⟩
      · rintro p ps wu Ap np cp ⟨v, L1, S1, G1, done, h1, h2, hR, h5, h6, h7, h8⟩ hpm hnp hsp
        have hxu := h7.size
        have hpl := hsp.len
        have hp0 := List.length_pos_iff.2 (pgs_ne hpm)
        have hp1 := pgs_plen hpm
        obtain ⟨Lp, hsLp, hLp⟩ := kc_hd hsp
        have hdb := hLp.back h7 (fun k h1 h2 h3 => by have h3 : _ ≤ k := h3; omega) (by omega)
        have hd3 : done.length ≤ 100 := by have := pgs_len l; rw [← h1, List.length_append] at this; omega
        obtain ⟨Av, cv, rfl, hcv, _⟩ := hR.rd
        refine YC.round (r := rec) (N := 21) h5 (by rw [hr5]; rfl) (by rw [hr5, hr4, fold1]; exact hrT.put 14 _ (by decide)) ?_
        rw [hr3, hr6, hr7]
        refine X.region ?_
        refine X.opw X.wN rfl (X.assign rfl) ?_
        refine X.opsEnd ?_
        refine X.beginRound' (r := rec) h5 hr1 (fun wb hLb hxb hzb => ?_)
        have hxb' := hxb.size
        refine X.block ?_
        refine X.regionD (fun k => w.heap.size ≤ k) 4 (by kernel_rfl) (by kernel_rfl) (fun w4 hk4 hz4 => ?_)
        refine X.dTwo (i := 0) (j := 1) (by kernel_rfl) ?_ ?_
        · refine X.d1Step (i := 0) rfl (X.dwN rfl) (X.load1B Tryz.isAgg48 ((h2.ext hxb zq1).keep hk4) rfl rfl) (fun _ => Ext.refl _ _) ?_
          refine X.dStep (i := 1) (by kernel_rfl) rfl (X.dwN rfl) (X.move rfl) (fun _ => Ext.refl _ _) ?_
          refine X.dE (i := 2) (by kernel_rfl) rfl (X.dwN rfl) (X.callE (CloneC_c _ ((hsLp.ext hxb zq1).keep hk4) (by omega) (by omega)) Tryz.call61 rfl rfl) (by rintro _ w5 ⟨A', c', rfl, hM17, hk5⟩ _; exact hk5.mono (fun _ _ h => h.elim)) ?_
          rintro _ w5 ⟨A', c', rfl, hM17, hk5⟩
          have hk5' := hk5.size
          refine X.dE (i := 3) (by kernel_rfl) rfl (X.dwN rfl) (X.litKF KH_flat (K := KH) (xs := [Operand.tmp 17]) (vs := [(.slice A' np c')]) (ys := [(A', np, c')]) Tryz.underlying48 Tryz.sizeOf22 Tryz.zeroValue22 rfl rfl rfl rfl rfl (repsH (A', np, c'))) (by rintro _ w6 ⟨rfl, hs6, hB6, hk6, hz6⟩ _; exact hk6.mono (fun _ _ h => h.elim)) ?_
          rintro _ w6 ⟨rfl, hs6, hB6, hk6, hz6⟩
          refine X.dE (i := 4) (by kernel_rfl) rfl (X.dwN rfl) (NRow.app (y := (A', np, c')) (q := p) ((hR.ext hxb zq1).keep ((hk4.trans hk5).trans hk6)) hs6 (mine_pg ((hM17.keep hk6).mono (fun k a b => ⟨b, a⟩)) hdb) (by omega) (by omega) (Nat.le_refl _) Tryz.underlying48 EH rfl rfl (by omega)) (fun _ _ _ h => absurd h (by decide)) ?_
          rintro _ w7 ⟨Aq, cq, S', G', rfl, hNn, hx7⟩
          have hx7' := hx7.size
          refine X.dE (i := 5) (by kernel_rfl) rfl (X.dwN rfl) (X.storeE Tryz.sizeOf48 (((h2.ext hxb zq1).keep ((hk4.trans hk5).trans hk6)).ext hx7 zq1) rfl rfl rfl rfl) (fun _ _ _ h => absurd h (by decide)) ?_
          rintro _ w8 ⟨hB8, hx8, hz8⟩
          refine X.dEnd (by kernel_rfl) ?_
          refine X.inBlock ?_
          refine X.endRound' (r := rec) ((hx8.keep _ (by omega) zq13).trans ((hx7.keep _ (by omega) zq13).trans ((hk6.keep _ (by omega) id).trans ((hk5.keep _ (by omega) id).trans ((hk4.keep _ (by omega) id).trans hLb))))) hr1 hr2 (fun we hLe hxe hze => ?_)
          have hex := (Ext.andThen (Ext.andThen (Ext.andThen (Ext.andThen (Ext.andThen (Ext.andThen (Ext.andThen (Ext.refl (fun k => w.heap.size ≤ k ∧ k ≠ w2.heap.size) _) hxb zq8) hk4 zq8) hk5 zq8) hk6 zq8) hx7 zq8) hx8 zq8) hxe zq8)
          exact ⟨rfl, hex, _, _, _, _, done ++ [p], by rw [← h1]; simp, (hB8.ext hxe zq1), ((hNn.ext hx8 zq1).ext hxe zq1).all, hLe, ((hxe.keep _ (by omega) zq13).trans ((hx8.keep _ (by omega) zq13).trans ((hx7.keep _ (by omega) zq13).trans ((hk6.keep _ (by omega) id).trans ((hk5.keep _ (by omega) id).trans ((hk4.keep _ (by omega) id).trans ((hxb.keep _ (by omega) zq13).trans h6))))))), h7.trans hex (fun _ _ h => h) (fun k _ h => h.1), by omega⟩
        · refine X.d1Step (i := 1) rfl (X.dwN rfl) (X.move rfl) (fun _ => Ext.refl _ _) ?_
          refine X.dTwo (i := 0) (j := 2) (by kernel_rfl) ?_ ?_
          · refine X.d1Step (i := 0) rfl (X.dwN rfl) (X.load1B Tryz.isAgg48 ((h2.ext hxb zq1).keep hk4) rfl rfl) (fun _ => Ext.refl _ _) ?_
            refine X.dE (i := 2) (by kernel_rfl) rfl (X.dwN rfl) (X.callE (CloneC_c _ ((hsLp.ext hxb zq1).keep hk4) (by omega) (by omega)) Tryz.call61 rfl rfl) (by rintro _ w9 ⟨A', c', rfl, hM17, hk9⟩ _; exact hk9.mono (fun _ _ h => h.elim)) ?_
            rintro _ w9 ⟨A', c', rfl, hM17, hk9⟩
            have hk9' := hk9.size
            refine X.dE (i := 3) (by kernel_rfl) rfl (X.dwN rfl) (X.litKF KH_flat (K := KH) (xs := [Operand.tmp 17]) (vs := [(.slice A' np c')]) (ys := [(A', np, c')]) Tryz.underlying48 Tryz.sizeOf22 Tryz.zeroValue22 rfl rfl rfl rfl rfl (repsH (A', np, c'))) (by rintro _ w10 ⟨rfl, hs10, hB10, hk10, hz10⟩ _; exact hk10.mono (fun _ _ h => h.elim)) ?_
            rintro _ w10 ⟨rfl, hs10, hB10, hk10, hz10⟩
            refine X.dE (i := 4) (by kernel_rfl) rfl (X.dwN rfl) (NRow.app (y := (A', np, c')) (q := p) ((hR.ext hxb zq1).keep ((hk4.trans hk9).trans hk10)) hs10 (mine_pg ((hM17.keep hk10).mono (fun k a b => ⟨b, a⟩)) hdb) (by omega) (by omega) (Nat.le_refl _) Tryz.underlying48 EH rfl rfl (by omega)) (fun _ _ _ h => absurd h (by decide)) ?_
            rintro _ w11 ⟨Aq, cq, S', G', rfl, hNn, hx11⟩
            have hx11' := hx11.size
            refine X.dE (i := 5) (by kernel_rfl) rfl (X.dwN rfl) (X.storeE Tryz.sizeOf48 (((h2.ext hxb zq1).keep ((hk4.trans hk9).trans hk10)).ext hx11 zq1) rfl rfl rfl rfl) (fun _ _ _ h => absurd h (by decide)) ?_
            rintro _ w12 ⟨hB12, hx12, hz12⟩
            refine X.dEnd (by kernel_rfl) ?_
            refine X.inBlock ?_
            refine X.endRound' (r := rec) ((hx12.keep _ (by omega) zq13).trans ((hx11.keep _ (by omega) zq13).trans ((hk10.keep _ (by omega) id).trans ((hk9.keep _ (by omega) id).trans ((hk4.keep _ (by omega) id).trans hLb))))) hr1 hr2 (fun we hLe hxe hze => ?_)
            have hex := (Ext.andThen (Ext.andThen (Ext.andThen (Ext.andThen (Ext.andThen (Ext.andThen (Ext.andThen (Ext.refl (fun k => w.heap.size ≤ k ∧ k ≠ w2.heap.size) _) hxb zq8) hk4 zq8) hk9 zq8) hk10 zq8) hx11 zq8) hx12 zq8) hxe zq8)
            exact ⟨rfl, hex, _, _, _, _, done ++ [p], by rw [← h1]; simp, (hB12.ext hxe zq1), ((hNn.ext hx12 zq1).ext hxe zq1).all, hLe, ((hxe.keep _ (by omega) zq13).trans ((hx12.keep _ (by omega) zq13).trans ((hx11.keep _ (by omega) zq13).trans ((hk10.keep _ (by omega) id).trans ((hk9.keep _ (by omega) id).trans ((hk4.keep _ (by omega) id).trans ((hxb.keep _ (by omega) zq13).trans h6))))))), h7.trans hex (fun _ _ h => h) (fun k _ h => h.1), by omega⟩
          · refine X.d1E (i := 2) rfl (X.dwN rfl) (X.callE (CloneC_c _ ((hsLp.ext hxb zq1).keep hk4) (by omega) (by omega)) Tryz.call61 rfl rfl) (by rintro _ w13 ⟨A', c', rfl, hM17, hk13⟩ _; exact hk13.mono (fun _ _ h => h.elim)) ?_
            rintro _ w13 ⟨A', c', rfl, hM17, hk13⟩
            have hk13' := hk13.size
            refine X.dTwo (i := 0) (j := 3) (by kernel_rfl) ?_ ?_
            · refine X.d1Step (i := 0) rfl (X.dwN rfl) (X.load1B Tryz.isAgg48 ((h2.ext hxb zq1).keep (hk4.trans hk13)) rfl rfl) (fun _ => Ext.refl _ _) ?_
              refine X.dE (i := 3) (by kernel_rfl) rfl (X.dwN rfl) (X.litKF KH_flat (K := KH) (xs := [Operand.tmp 17]) (vs := [(.slice A' np c')]) (ys := [(A', np, c')]) Tryz.underlying48 Tryz.sizeOf22 Tryz.zeroValue22 rfl rfl rfl rfl rfl (repsH (A', np, c'))) (by rintro _ w14 ⟨rfl, hs14, hB14, hk14, hz14⟩ _; exact hk14.mono (fun _ _ h => h.elim)) ?_
              rintro _ w14 ⟨rfl, hs14, hB14, hk14, hz14⟩
              refine X.dE (i := 4) (by kernel_rfl) rfl (X.dwN rfl) (NRow.app (y := (A', np, c')) (q := p) ((hR.ext hxb zq1).keep ((hk4.trans hk13).trans hk14)) hs14 (mine_pg ((hM17.keep hk14).mono (fun k a b => ⟨b, a⟩)) hdb) (by omega) (by omega) (Nat.le_refl _) Tryz.underlying48 EH rfl rfl (by omega)) (fun _ _ _ h => absurd h (by decide)) ?_
              rintro _ w15 ⟨Aq, cq, S', G', rfl, hNn, hx15⟩
              have hx15' := hx15.size
              refine X.dE (i := 5) (by kernel_rfl) rfl (X.dwN rfl) (X.storeE Tryz.sizeOf48 (((h2.ext hxb zq1).keep ((hk4.trans hk13).trans hk14)).ext hx15 zq1) rfl rfl rfl rfl) (fun _ _ _ h => absurd h (by decide)) ?_
              rintro _ w16 ⟨hB16, hx16, hz16⟩
              refine X.dEnd (by kernel_rfl) ?_
              refine X.inBlock ?_
              refine X.endRound' (r := rec) ((hx16.keep _ (by omega) zq13).trans ((hx15.keep _ (by omega) zq13).trans ((hk14.keep _ (by omega) id).trans ((hk13.keep _ (by omega) id).trans ((hk4.keep _ (by omega) id).trans hLb))))) hr1 hr2 (fun we hLe hxe hze => ?_)
              have hex := (Ext.andThen (Ext.andThen (Ext.andThen (Ext.andThen (Ext.andThen (Ext.andThen (Ext.andThen (Ext.refl (fun k => w.heap.size ≤ k ∧ k ≠ w2.heap.size) _) hxb zq8) hk4 zq8) hk13 zq8) hk14 zq8) hx15 zq8) hx16 zq8) hxe zq8)
              exact ⟨rfl, hex, _, _, _, _, done ++ [p], by rw [← h1]; simp, (hB16.ext hxe zq1), ((hNn.ext hx16 zq1).ext hxe zq1).all, hLe, ((hxe.keep _ (by omega) zq13).trans ((hx16.keep _ (by omega) zq13).trans ((hx15.keep _ (by omega) zq13).trans ((hk14.keep _ (by omega) id).trans ((hk13.keep _ (by omega) id).trans ((hk4.keep _ (by omega) id).trans ((hxb.keep _ (by omega) zq13).trans h6))))))), h7.trans hex (fun _ _ h => h) (fun k _ h => h.1), by omega⟩
            · refine X.d1E (i := 3) rfl (X.dwN rfl) (X.litKF KH_flat (K := KH) (xs := [Operand.tmp 17]) (vs := [(.slice A' np c')]) (ys := [(A', np, c')]) Tryz.underlying48 Tryz.sizeOf22 Tryz.zeroValue22 rfl rfl rfl rfl rfl (repsH (A', np, c'))) (by rintro _ w17 ⟨rfl, hs17, hB17, hk17, hz17⟩ _; exact hk17.mono (fun _ _ h => h.elim)) ?_
              rintro _ w17 ⟨rfl, hs17, hB17, hk17, hz17⟩
              refine X.dStep (i := 0) (by kernel_rfl) rfl (X.dwN rfl) (X.load1B Tryz.isAgg48 ((h2.ext hxb zq1).keep ((hk4.trans hk13).trans hk17)) rfl rfl) (fun _ => Ext.refl _ _) ?_
              refine X.dE (i := 4) (by kernel_rfl) rfl (X.dwN rfl) (NRow.app (y := (A', np, c')) (q := p) ((hR.ext hxb zq1).keep ((hk4.trans hk13).trans hk17)) hs17 (mine_pg ((hM17.keep hk17).mono (fun k a b => ⟨b, a⟩)) hdb) (by omega) (by omega) (Nat.le_refl _) Tryz.underlying48 EH rfl rfl (by omega)) (fun _ _ _ h => absurd h (by decide)) ?_
              rintro _ w18 ⟨Aq, cq, S', G', rfl, hNn, hx18⟩
              have hx18' := hx18.size
              refine X.dE (i := 5) (by kernel_rfl) rfl (X.dwN rfl) (X.storeE Tryz.sizeOf48 (((h2.ext hxb zq1).keep ((hk4.trans hk13).trans hk17)).ext hx18 zq1) rfl rfl rfl rfl) (fun _ _ _ h => absurd h (by decide)) ?_
              rintro _ w19 ⟨hB19, hx19, hz19⟩
              refine X.dEnd (by kernel_rfl) ?_
              refine X.inBlock ?_
              refine X.endRound' (r := rec) ((hx19.keep _ (by omega) zq13).trans ((hx18.keep _ (by omega) zq13).trans ((hk17.keep _ (by omega) id).trans ((hk13.keep _ (by omega) id).trans ((hk4.keep _ (by omega) id).trans hLb))))) hr1 hr2 (fun we hLe hxe hze => ?_)
              have hex := (Ext.andThen (Ext.andThen (Ext.andThen (Ext.andThen (Ext.andThen (Ext.andThen (Ext.andThen (Ext.refl (fun k => w.heap.size ≤ k ∧ k ≠ w2.heap.size) _) hxb zq8) hk4 zq8) hk13 zq8) hk17 zq8) hx18 zq8) hx19 zq8) hxe zq8)
              exact ⟨rfl, hex, _, _, _, _, done ++ [p], by rw [← h1]; simp, (hB19.ext hxe zq1), ((hNn.ext hx19 zq1).ext hxe zq1).all, hLe, ((hxe.keep _ (by omega) zq13).trans ((hx19.keep _ (by omega) zq13).trans ((hx18.keep _ (by omega) zq13).trans ((hk17.keep _ (by omega) id).trans ((hk13.keep _ (by omega) id).trans ((hk4.keep _ (by omega) id).trans ((hxb.keep _ (by omega) zq13).trans h6))))))), h7.trans hex (fun _ _ h => h) (fun k _ h => h.1), by omega⟩
      · rintro v' wz ⟨_, ⟨v, L1, S1, G1, done, h1, h2, hR, h5, h6, h7, h8⟩, hxq⟩
        rw [List.append_nil] at h1
        exact ⟨⟨rec, h5, by rw [hr1]; simp, hr2⟩, v, L1, S1, G1, done, h1, h2, hR, h6, h7, h8⟩
    · rintro wz we ⟨v, L1, S1, G1, done, h1, h2, hR, h6, h7, h8⟩ hxe hze
      subst h1
      obtain ⟨hdf, _⟩ := Array.getElem?_eq_some_iff.1 h6
      have hxz := h7.size
      have hkz : Keep w wz := h7.mono fun k hk h => by have h : _ ≤ k := h; omega
      refine X.inBlock ?_
      refine X.seq ?_
      refine X.region ?_
      refine X.opw X.wN rfl (X.load1B Tryz.isAgg48 (h2.ext hxe zq1) rfl rfl) ?_
      refine X.opw X.wN rfl (X.assign rfl) ?_
      refine X.opw X.wN rfl (X.assign rfl) ?_
      refine X.opsEnd ?_
      refine X.ret_unw ?_
      refine X.collected' (by simp) ((hxe.keep _ (by omega) zq13).trans h6) (fun wf hxf hzf => ?_)
      refine X.unwT2 Tryz.func20 Tryz.results20 rfl rfl ?_
      rw [if_pos hr, if_pos hr]
      have hRf := ((hR.ext hxe zq1).ext hxf zq1)
      exact ⟨_, rfl, ⟨_, _, _, _, hRf.low (by omega)⟩, ((hkz.step hxe zq16).step hxf zq16)⟩
end Go.Proofs.YtbljooblpfdbiaaGreatDoor
namespace Go.Proofs.YtbljooblpfdbiaaGreatDoor
open Go Go.Proofs.YtbljooblpfdbiaaGreatDoor.X
set_option maxHeartbeats 4000000 in
set_option maxRecDepth 100000 in
theorem RunWrites_t {lo hi : Nat} {A : Option Addr} {n c : Nat} {l : List CD} (w : World) (hs : Sl KC lo hi w A n l) (hhi : hi ≤ w.heap.size) (hnc : n ≤ c) (hTb : TabOk w) (hR : isR (fewL l) = true) : Ret Tryz.prog 4 #[.slice A n c] w fun r w' => r = .bool true ∧ Keep w w' := by
  have htl := hTb.lt
  refine X.enter Tryz.func4 rfl Tryz.ntmps4 rfl ?_
  refine X.seq ?_
  refine X.region ?_
  refine X.opw X.wN rfl (X.assign rfl) ?_
  refine X.opsEnd ?_
  refine X.seq ?_
  refine X.region ?_
  refine X.opw X.wN rfl (X.move rfl) ?_
  refine X.opE X.wN rfl (X.callE (few_c _ hs hhi hnc) Tryz.call9 rfl rfl) ?_
  rintro _ w1 ⟨vF, LF_, mF, SF, GF, rfl, hNF, hk1⟩
  obtain ⟨Al, cl, rfl, hcl, hsl⟩ := nrow_kc hNF
  have hll := hsl.len
  have hl60 := few_len l
  have hOks : Oks (fewL l) := kc_ok hsl
  have hk1z := hk1.size
  have hk1' := hk1.size
  refine X.opw X.wN rfl (X.assign rfl) ?_
  refine X.opsEnd ?_
  refine X.seq ?_
  refine X.region ?_
  refine X.opw X.wN rfl (X.move rfl) ?_
  refine X.opE X.wN rfl (X.callE (Bytes_c _ hsl (by omega) hcl (by omega) hOks (hTb.keep hk1)) Tryz.call18 rfl rfl) ?_
  rintro _ w2 ⟨v2, rfl, hM2, hk2⟩
  rw [hR, if_pos rfl] at hM2
  rw [hR, if_pos rfl]
  have hk2' := hk2.size
  refine X.opw X.wN rfl (X.move rfl) ?_
  refine X.opw X.wN rfl (X.extr rfl rfl) ?_
  refine X.opw X.wN rfl (X.extr rfl rfl) ?_
  refine X.opw X.wN rfl (X.assign rfl) ?_
  refine X.opw X.wN rfl (X.assign (v := .int .i64 _) rfl) ?_
  refine X.opsEnd ?_
  refine X.seq ?_
  refine X.region ?_
  refine X.opw X.wN rfl (X.move rfl) ?_
  refine X.opE X.wN rfl (X.callE (RBytes_c _ (hsl.keep hk2) (by omega) hcl (by omega) hOks) Tryz.call19 rfl rfl) ?_
  rintro _ w3 ⟨v3, rfl, hM3, hk3⟩
  rw [hR, if_pos rfl] at hM3
  rw [hR, if_pos rfl]
  have hk3' := hk3.size
  refine X.opw X.wN rfl (X.move rfl) ?_
  refine X.opw X.wN rfl (X.extr rfl rfl) ?_
  refine X.opw X.wN rfl (X.extr rfl rfl) ?_
  refine X.opw X.wN rfl (X.assign rfl) ?_
  refine X.opw X.wN rfl (X.assign (v := .int .i64 _) rfl) ?_
  refine X.opsEnd ?_
  refine X.seq ?_
  refine X.region ?_
  refine X.opw X.wN rfl (X.move rfl) ?_
  refine X.opE X.wN rfl (X.callE (Pages_c _ (hsl.keep (hk2.trans hk3)) (by omega) hcl (by omega) hOks) Tryz.call20 rfl rfl) ?_
  rintro _ w4 ⟨v4, rfl, ⟨LPq, mPq, SPq, GPq, hNP⟩, hk4⟩
  rw [hR, if_pos rfl] at hNP
  rw [hR, if_pos rfl]
  obtain ⟨Aq, cq, rfl, hcq, ⟨LP1, hsP1, hPl1, hPt1⟩⟩ := nrow_pg hNP hk4 (by omega)
  have hk4' := hk4.size
  refine X.opw X.wN rfl (X.move rfl) ?_
  refine X.opw X.wN rfl (X.extr rfl rfl) ?_
  refine X.opw X.wN rfl (X.extr rfl rfl) ?_
  refine X.opw X.wN rfl (X.assign (v := .slice _ _ _) rfl) ?_
  refine X.opw X.wN rfl (X.assign (v := .int .i64 _) rfl) ?_
  refine X.opsEnd ?_
  refine X.seq ?_
  refine X.seq ?_
  refine X.region ?_
  refine X.opw X.wN rfl (X.move rfl) ?_
  have q5 := (hM2.keep (hk3.trans hk4)).slF KB_flat 0 (fun _ _ => Nat.zero_le _)
  obtain ⟨A5, c5, rfl, hc5, hs5⟩ := q5
  refine X.opw X.wN rfl (X.str Tryz.underlying43 Tryz.underlying5 Tryz.underlying9 rfl KB_is rfl hs5) ?_
  refine X.opw X.wN rfl (X.move rfl) ?_
  have q6 := (hM3.keep hk4).slF KB_flat 0 (fun _ _ => Nat.zero_le _)
  obtain ⟨A6, c6, rfl, hc6, hs6⟩ := q6
  refine X.opw X.wN rfl (X.str Tryz.underlying43 Tryz.underlying5 Tryz.underlying9 rfl KB_is rfl hs6) ?_
  refine X.opP X.wN rfl rfl (X.neD rfl rfl) (fun h32 => ?_) (fun h32 => ?_)
  · exact absurd rfl h32
  · refine X.opw X.wN rfl (X.move (v := .bool false) rfl) ?_
    refine X.opw (X.wG rfl rfl rfl) rfl (X.move (v := .int .i64 _) rfl) ?_
    refine X.opw (X.wG rfl rfl rfl) rfl (X.move (v := .int .i64 _) rfl) ?_
    refine X.opw (X.wG rfl rfl rfl) rfl (X.neI rfl rfl) ?_
    refine X.opw X.wN rfl (X.pickF (v := .bool false) rfl rfl) ?_
    refine X.opw X.wN rfl (X.move (v := .bool false) rfl) ?_
    refine X.opw (X.wG rfl rfl rfl) rfl (X.move rfl) ?_
    refine X.opE (X.wG rfl rfl rfl) rfl (X.callE (rCheck_c _ (hsl.keep ((hk2.trans hk3).trans hk4)) (by omega)) Tryz.call21 rfl rfl) ?_
    rintro _ w7 ⟨rfl, hk7⟩
    rw [hR, if_pos rfl]
    have hk7' := hk7.size
    refine X.opw (X.wG rfl rfl rfl) rfl (X.eqI rfl rfl) ?_
    refine X.opw (X.wG rfl rfl rfl) rfl (X.move rfl) ?_
    refine X.opE (X.wG rfl rfl rfl) rfl (X.callE (RIs_c _ (hsl.keep (((hk2.trans hk3).trans hk4).trans hk7)) (by omega)) Tryz.call10 rfl rfl) ?_
    rintro _ w8 ⟨rfl, hk8⟩
    rw [hR]
    have hk8' := hk8.size
    refine X.opw (X.wG rfl rfl rfl) rfl (X.neB Tryz.underlying4 rfl rfl) ?_
    refine X.opw X.wN rfl (X.pickF (v := .bool false) rfl rfl) ?_
    refine X.opw X.wN rfl (X.move (v := .bool false) rfl) ?_
    refine X.opw (X.wG rfl rfl rfl) rfl (X.move (v := .int .i64 _) rfl) ?_
    refine X.opw (X.wG rfl rfl rfl) rfl (X.eqI rfl rfl) ?_
    refine X.opw (X.wG rfl rfl rfl) rfl (X.move rfl) ?_
    refine X.opE (X.wG rfl rfl rfl) rfl (X.callE (RIs_c _ (hsl.keep ((((hk2.trans hk3).trans hk4).trans hk7).trans hk8)) (by omega)) Tryz.call10 rfl rfl) ?_
    rintro _ w9 ⟨rfl, hk9⟩
    rw [hR]
    have hk9' := hk9.size
    refine X.opw (X.wG rfl rfl rfl) rfl (X.neB Tryz.underlying4 rfl rfl) ?_
    refine X.opw X.wN rfl (X.pickF (v := .bool false) rfl rfl) ?_
    refine X.opsEnd ?_
    refine X.condF rfl ?_
    refine X.skip ?_
    refine X.seq ?_
    refine X.seq ?_
    refine X.region ?_
    refine X.opw X.wN rfl (X.move (v := .int .i64 _) rfl) ?_
    refine X.opw X.wN rfl (X.neI rfl rfl) ?_
    refine X.opsEnd ?_
    refine X.condF rfl ?_
    refine X.skip ?_
    refine X.seq ?_
    refine X.region ?_
    refine X.opw X.wN rfl (X.move rfl) ?_
    refine X.opE X.wN rfl (X.callE (RPages_r _ (hsl.keep (((((hk2.trans hk3).trans hk4).trans hk7).trans hk8).trans hk9)) (by omega) (by omega) hOks) Tryz.call22 rfl rfl) ?_
    rintro _ w10 ⟨Ar, cr, rfl, hcr, ⟨LP2, hsP2, hPl2, hPt2⟩, hk10⟩
    have hk10' := hk10.size
    refine X.opw X.wN rfl (X.assign rfl) ?_
    refine X.opsEnd ?_
    refine X.seq ?_
    refine X.seq ?_
    refine X.region ?_
    refine X.opw X.wN rfl (X.move (v := .slice _ _ _) rfl) ?_
    refine X.opw X.wN rfl (X.lenSl Tryz.underlying48 rfl) ?_
    refine X.opw X.wN rfl (X.move rfl) ?_
    refine X.opw X.wN rfl (X.lenSl Tryz.underlying48 rfl) ?_
    refine X.opP X.wN rfl rfl (X.neI rfl rfl) (fun h71 => ?_) (fun h71 => ?_)
    · exact absurd rfl h71
    · refine X.opsEnd ?_
      refine X.condF rfl ?_
      refine X.skip ?_
      refine X.seq ?_
      refine X.seq ?_
      refine X.region ?_
      refine X.opw X.wN rfl (X.assign rfl) ?_
      refine X.opsEnd ?_
      refine X.block ?_
      have hKI := (((((((hk1.trans hk2).trans hk3).trans hk4).trans hk7).trans hk8).trans hk9).trans hk10)
      have hTbI := (hTb.keep (((((((hk1.trans hk2).trans hk3).trans hk4).trans hk7).trans hk8).trans hk9).trans hk10))
      have hs1I := (hsP1.keep (((hk7.trans hk8).trans hk9).trans hk10))
      have hkPQ := (((hk7.trans hk8).trans hk9).trans hk10)
      refine X.loopL (σ := Nat) (fun s => [(7, .slice Aq (pgs (fewL l)).length cq), (9, .slice Ar (pgs (fewL l)).length cr), (10, .int .i64 (s : Int))]) (fun s w' => s ≤ (pgs (fewL l)).length ∧ Keep w10 w') (fun s => (pgs (fewL l)).length - s) 0 ⟨rfl, rfl, rfl, trivial⟩ ⟨Nat.zero_le _, Keep.refl _⟩ ?_
      rintro i b wo ⟨hi, hkE⟩ hback
      have hkE' := hkE.size
      have hpz := pgs_len (fewL l)
      refine X.seq ?_
      refine X.seq ?_
      refine X.region ?_
      refine X.opw X.wN rfl (X.move (v := .int .i64 _) rfl) ?_
      refine X.opw X.wN rfl (X.move (v := .slice _ _ _) rfl) ?_
      refine X.opw X.wN rfl (X.lenSl Tryz.underlying48 rfl) ?_
      refine X.opP X.wN rfl rfl (X.lss rfl rfl) (fun h75 => ?_) (fun h75 => ?_)
      · obtain ⟨x1, hx1⟩ : ∃ x1, LP1[i]? = some x1 := ⟨_, List.getElem?_eq_getElem (by omega)⟩
        obtain ⟨x2, hx2⟩ : ∃ x2, LP2[i]? = some x2 := ⟨_, List.getElem?_eq_getElem (by omega)⟩
        obtain ⟨p1, e1, hc1, hp1'⟩ := hPt1 _ _ hx1
        obtain ⟨p2, e2, hc2, hp2⟩ := hPt2 _ _ hx2
        rw [e1] at e2
        cases e2
        have hp1 := hp1'.keep hkPQ
        refine X.opsEnd ?_
        refine X.condT rfl ?_
        refine X.skip ?_
        refine X.seq ?_
        refine X.block ?_
        refine X.seq ?_
        refine X.regionD (fun _ => False) 10 (by kernel_rfl) (by kernel_rfl) (fun w11 hk11 hz11 => ?_)
        refine X.dTake 0 rfl (by kernel_rfl) (by kernel_rfl) (by kernel_rfl) (X.dwN rfl) (fun w' hk' => X.move (v := .slice _ _ _) rfl) ?_
        refine X.dTake 1 rfl (by kernel_rfl) (by kernel_rfl) (by kernel_rfl) (X.dwN rfl) (fun w' hk' => X.move (v := .int .i64 _) rfl) ?_
        refine X.dTake 2 rfl (by kernel_rfl) (by kernel_rfl) (by kernel_rfl) (X.dwN rfl) (fun w' hk' => X.idxS (hs1I.keep ((hkE.trans hk11).trans hk')) Tryz.underlying48 Tryz.sizeOf22 rfl rfl ⟨by omega, by omega⟩) ?_
        refine X.dTake 3 rfl (by kernel_rfl) (by kernel_rfl) (by kernel_rfl) (X.dwN rfl) (fun w' hk' => X.loadS Tryz.isAgg22 (hs1I.keep ((hkE.trans hk11).trans hk')) hx1 rfl (fun _ h => by rw [h.1]; rfl)) ?_
        refine X.dTake 4 rfl (by kernel_rfl) (by kernel_rfl) (by kernel_rfl) (X.dwN rfl) (fun w' hk' => X.move (v := .slice _ _ _) rfl) ?_
        refine X.dTake 5 rfl (by kernel_rfl) (by kernel_rfl) (by kernel_rfl) (X.dwN rfl) (fun w' hk' => X.move (v := .int .i64 _) rfl) ?_
        refine X.dTake 6 rfl (by kernel_rfl) (by kernel_rfl) (by kernel_rfl) (X.dwN rfl) (fun w' hk' => X.idxS (hsP2.keep ((hkE.trans hk11).trans hk')) Tryz.underlying48 Tryz.sizeOf22 rfl rfl ⟨by omega, by omega⟩) ?_
        refine X.dTake 7 rfl (by kernel_rfl) (by kernel_rfl) (by kernel_rfl) (X.dwN rfl) (fun w' hk' => X.loadS Tryz.isAgg22 (hsP2.keep ((hkE.trans hk11).trans hk')) hx2 rfl (fun _ h => by rw [h.1]; rfl)) ?_
        refine X.dE (i := 8) (by kernel_rfl) rfl (X.dwN rfl) (X.callE (RSame_c _ (hp1.keep (hkE.trans hk11)) (hp2.keep (hkE.trans hk11))) Tryz.call23 rfl rfl) (by rintro _ w12 ⟨rfl, hk12⟩ _; exact hk12.mono (fun _ _ h => h.elim)) ?_
        rintro _ w12 ⟨rfl, hk12⟩
        have hk12' := hk12.size
        refine X.dTake 9 rfl (by kernel_rfl) (by kernel_rfl) (by kernel_rfl) (X.dwN rfl) (fun w' hk' => X.not_ rfl) ?_
        refine X.dEnd (by kernel_rfl) ?_
        refine X.condB rfl (fun hc => ?_) (fun hc => ?_)
        · simp at hc
        · refine X.skip ?_
          refine X.inBlock ?_
          refine X.region ?_
          refine X.opw X.wN rfl (X.move (v := .int .i64 _) rfl) ?_
          refine X.opw X.wN rfl (X.add rfl rfl (X.w_i64 (by omega))) ?_
          refine X.opw X.wN rfl (X.assign (v := .int .i64 _) rfl) ?_
          refine X.opsEnd ?_
          refine hback (i + 1) _ _ ⟨rfl, rfl, rfl, trivial⟩ ⟨by omega, ((hkE.trans hk11).trans hk12)⟩ (by omega)
      · refine X.opsEnd ?_
        refine X.condF rfl ?_
        refine X.exit rfl ?_
        refine X.seq ?_
        refine X.region ?_
        refine X.opE X.wN rfl (X.callE (ralive_c _ (hTbI.keep hkE)) Tryz.call11 rfl rfl) ?_
        rintro _ w13 ⟨rfl, hk13⟩
        have hk13' := hk13.size
        refine X.opw X.wN rfl (X.assign (v := .bool _) rfl) ?_
        refine X.opsEnd ?_
        refine X.ret1 (v := (.bool _)) Tryz.func4 Tryz.results4 rfl ?_
        exact ⟨rfl, ((hKI.trans hkE).trans hk13)⟩
set_option maxHeartbeats 4000000 in
set_option maxRecDepth 100000 in
theorem RunWrites_f {lo hi : Nat} {A : Option Addr} {n c : Nat} {l : List CD} (w : World) (hs : Sl KC lo hi w A n l) (hhi : hi ≤ w.heap.size) (hnc : n ≤ c) (hTb : TabOk w) (hR : isR (fewL l) = false) : Ret Tryz.prog 4 #[.slice A n c] w fun r w' => r = .bool true ∧ Keep w w' := by
  have htl := hTb.lt
  refine X.enter Tryz.func4 rfl Tryz.ntmps4 rfl ?_
  refine X.seq ?_
  refine X.region ?_
  refine X.opw X.wN rfl (X.assign rfl) ?_
  refine X.opsEnd ?_
  refine X.seq ?_
  refine X.region ?_
  refine X.opw X.wN rfl (X.move rfl) ?_
  refine X.opE X.wN rfl (X.callE (few_c _ hs hhi hnc) Tryz.call9 rfl rfl) ?_
  rintro _ w1 ⟨vF, LF_, mF, SF, GF, rfl, hNF, hk1⟩
  obtain ⟨Al, cl, rfl, hcl, hsl⟩ := nrow_kc hNF
  have hll := hsl.len
  have hl60 := few_len l
  have hOks : Oks (fewL l) := kc_ok hsl
  have hk1z := hk1.size
  have hk1' := hk1.size
  refine X.opw X.wN rfl (X.assign rfl) ?_
  refine X.opsEnd ?_
  refine X.seq ?_
  refine X.region ?_
  refine X.opw X.wN rfl (X.move rfl) ?_
  refine X.opE X.wN rfl (X.callE (Bytes_c _ hsl (by omega) hcl (by omega) hOks (hTb.keep hk1)) Tryz.call18 rfl rfl) ?_
  rintro _ w2 ⟨v2, rfl, hM2, hk2⟩
  rw [hR, if_neg (by decide)] at hM2
  rw [hR, if_neg (by decide)]
  have hk2' := hk2.size
  refine X.opw X.wN rfl (X.move rfl) ?_
  refine X.opw X.wN rfl (X.extr rfl rfl) ?_
  refine X.opw X.wN rfl (X.extr rfl rfl) ?_
  refine X.opw X.wN rfl (X.assign rfl) ?_
  refine X.opw X.wN rfl (X.assign (v := .int .i64 _) rfl) ?_
  refine X.opsEnd ?_
  refine X.seq ?_
  refine X.region ?_
  refine X.opw X.wN rfl (X.move rfl) ?_
  refine X.opE X.wN rfl (X.callE (RBytes_c _ (hsl.keep hk2) (by omega) hcl (by omega) hOks) Tryz.call19 rfl rfl) ?_
  rintro _ w3 ⟨v3, rfl, hM3, hk3⟩
  rw [hR, if_neg (by decide)] at hM3
  rw [hR, if_neg (by decide)]
  have hk3' := hk3.size
  refine X.opw X.wN rfl (X.move rfl) ?_
  refine X.opw X.wN rfl (X.extr rfl rfl) ?_
  refine X.opw X.wN rfl (X.extr rfl rfl) ?_
  refine X.opw X.wN rfl (X.assign rfl) ?_
  refine X.opw X.wN rfl (X.assign (v := .int .i64 _) rfl) ?_
  refine X.opsEnd ?_
  refine X.seq ?_
  refine X.region ?_
  refine X.opw X.wN rfl (X.move rfl) ?_
  refine X.opE X.wN rfl (X.callE (Pages_c _ (hsl.keep (hk2.trans hk3)) (by omega) hcl (by omega) hOks) Tryz.call20 rfl rfl) ?_
  rintro _ w4 ⟨v4, rfl, ⟨LPq, mPq, SPq, GPq, hNP⟩, hk4⟩
  rw [hR, if_neg (by decide)] at hNP
  rw [hR, if_neg (by decide)]
  obtain ⟨Aq, cq, rfl, hcq, ⟨LP1, hsP1, hPl1, hPt1⟩⟩ := nrow_pg hNP hk4 (by omega)
  have hk4' := hk4.size
  refine X.opw X.wN rfl (X.move rfl) ?_
  refine X.opw X.wN rfl (X.extr rfl rfl) ?_
  refine X.opw X.wN rfl (X.extr rfl rfl) ?_
  refine X.opw X.wN rfl (X.assign (v := .slice _ _ _) rfl) ?_
  refine X.opw X.wN rfl (X.assign (v := .int .i64 _) rfl) ?_
  refine X.opsEnd ?_
  refine X.seq ?_
  refine X.seq ?_
  refine X.region ?_
  refine X.opw X.wN rfl (X.move rfl) ?_
  have q5 := (hM2.keep (hk3.trans hk4)).slF KB_flat 0 (fun _ _ => Nat.zero_le _)
  obtain ⟨A5, c5, rfl, hc5, hs5⟩ := q5
  refine X.opw X.wN rfl (X.str Tryz.underlying43 Tryz.underlying5 Tryz.underlying9 rfl KB_is rfl hs5) ?_
  refine X.opw X.wN rfl (X.move rfl) ?_
  have q6 := (hM3.keep hk4).slF KB_flat 0 (fun _ _ => Nat.zero_le _)
  obtain ⟨A6, c6, rfl, hc6, hs6⟩ := q6
  refine X.opw X.wN rfl (X.str Tryz.underlying43 Tryz.underlying5 Tryz.underlying9 rfl KB_is rfl hs6) ?_
  refine X.opP X.wN rfl rfl (X.neD rfl rfl) (fun h32 => ?_) (fun h32 => ?_)
  · exact absurd rfl h32
  · refine X.opw X.wN rfl (X.move (v := .bool false) rfl) ?_
    refine X.opw (X.wG rfl rfl rfl) rfl (X.move (v := .int .i64 _) rfl) ?_
    refine X.opw (X.wG rfl rfl rfl) rfl (X.move (v := .int .i64 _) rfl) ?_
    refine X.opw (X.wG rfl rfl rfl) rfl (X.neI rfl rfl) ?_
    refine X.opw X.wN rfl (X.pickF (v := .bool false) rfl rfl) ?_
    refine X.opw X.wN rfl (X.move (v := .bool false) rfl) ?_
    refine X.opw (X.wG rfl rfl rfl) rfl (X.move rfl) ?_
    refine X.opE (X.wG rfl rfl rfl) rfl (X.callE (rCheck_c _ (hsl.keep ((hk2.trans hk3).trans hk4)) (by omega)) Tryz.call21 rfl rfl) ?_
    rintro _ w7 ⟨rfl, hk7⟩
    rw [hR, if_neg (by decide)]
    have hk7' := hk7.size
    refine X.opw (X.wG rfl rfl rfl) rfl (X.eqI rfl rfl) ?_
    refine X.opw (X.wG rfl rfl rfl) rfl (X.move rfl) ?_
    refine X.opE (X.wG rfl rfl rfl) rfl (X.callE (RIs_c _ (hsl.keep (((hk2.trans hk3).trans hk4).trans hk7)) (by omega)) Tryz.call10 rfl rfl) ?_
    rintro _ w8 ⟨rfl, hk8⟩
    rw [hR]
    have hk8' := hk8.size
    refine X.opw (X.wG rfl rfl rfl) rfl (X.neB Tryz.underlying4 rfl rfl) ?_
    refine X.opw X.wN rfl (X.pickF (v := .bool false) rfl rfl) ?_
    refine X.opw X.wN rfl (X.move (v := .bool false) rfl) ?_
    refine X.opw (X.wG rfl rfl rfl) rfl (X.move (v := .int .i64 _) rfl) ?_
    refine X.opw (X.wG rfl rfl rfl) rfl (X.eqI rfl rfl) ?_
    refine X.opw (X.wG rfl rfl rfl) rfl (X.move rfl) ?_
    refine X.opE (X.wG rfl rfl rfl) rfl (X.callE (RIs_c _ (hsl.keep ((((hk2.trans hk3).trans hk4).trans hk7).trans hk8)) (by omega)) Tryz.call10 rfl rfl) ?_
    rintro _ w9 ⟨rfl, hk9⟩
    rw [hR]
    have hk9' := hk9.size
    refine X.opw (X.wG rfl rfl rfl) rfl (X.neB Tryz.underlying4 rfl rfl) ?_
    refine X.opw X.wN rfl (X.pickF (v := .bool false) rfl rfl) ?_
    refine X.opsEnd ?_
    refine X.condF rfl ?_
    refine X.skip ?_
    refine X.seq ?_
    refine X.seq ?_
    refine X.region ?_
    refine X.opw X.wN rfl (X.move (v := .int .i64 _) rfl) ?_
    refine X.opw X.wN rfl (X.neI rfl rfl) ?_
    refine X.opsEnd ?_
    refine X.condT rfl ?_
    refine X.seq ?_
    refine X.region ?_
    refine X.opw X.wN rfl (X.move (v := .int .i64 _) rfl) ?_
    refine X.opw X.wN rfl (X.eqI rfl rfl) ?_
    refine X.opw X.wN rfl (X.move (v := .bool true) rfl) ?_
    refine X.opw (X.wG rfl rfl rfl) rfl (X.move (v := .slice _ _ _) rfl) ?_
    refine X.opw (X.wG rfl rfl rfl) rfl (X.lenSl Tryz.underlying48 rfl) ?_
    refine X.opw (X.wG rfl rfl rfl) rfl (X.eqI rfl rfl) ?_
    refine X.opw X.wN rfl (X.pickT (v := .bool true) rfl rfl) ?_
    refine X.opw X.wN rfl (X.move (v := .bool true) rfl) ?_
    refine X.opE (X.wG rfl rfl rfl) rfl (X.callE (ralive_c _ (hTb.keep ((((((hk1.trans hk2).trans hk3).trans hk4).trans hk7).trans hk8).trans hk9))) Tryz.call11 rfl rfl) ?_
    rintro _ w10 ⟨rfl, hk10⟩
    have hk10' := hk10.size
    refine X.opw X.wN rfl (X.pickT (v := .bool _) rfl rfl) ?_
    refine X.opw X.wN rfl (X.assign (v := .bool _) rfl) ?_
    refine X.opsEnd ?_
    refine X.ret1 (v := (.bool _)) Tryz.func4 Tryz.results4 rfl ?_
    exact ⟨rfl, (((((((hk1.trans hk2).trans hk3).trans hk4).trans hk7).trans hk8).trans hk9).trans hk10)⟩
theorem RunWrites_c (w : World) (hTb : TabOk w) (A : Option Addr) (n c : Nat) (l : List CD) (hnc : n ≤ c) (hs : Sl KC 0 w.heap.size w A n l) : Ret Tryz.prog 4 #[.slice A n c] w fun r w' => r = .bool true ∧ Keep w w' := by
  cases hR : isR (fewL l) with
  | true => exact RunWrites_t w hs (Nat.le_refl _) hnc hTb hR
  | false => exact RunWrites_f w hs (Nat.le_refl _) hnc hTb hR
end Go.Proofs.YtbljooblpfdbiaaGreatDoor
