/- Texts that the proof of RunFiles stands on, part 16. -/
import Derived.Test.YtbljooblpfdbiaaGreatDoorProg
import Derived.Test.YtbljooblpfdbiaaGreatDoorBunRunFiles15
set_option maxHeartbeats 4000000
set_option maxRecDepth 100000
open Go.Proofs.Tryz renaming call36 → Zc36, call44 → Zc44, call55 → Zc55, func13 → Zf13, func14 → Zf14, func19 → Zf19, func23 → Zf23, func9 → Zf9, isAgg22 → Zi22, isAgg3 → Zi3, isAgg31 → Zi31, isAgg38 → Zi38, isAgg40 → Zi40, isAgg54 → Zi54, isAgg9 → Zi9, isAgg90 → Zi90, results13 → Zr13, results14 → Zr14, results23 → Zr23, sizeOf106 → Zs106, sizeOf22 → Zs22, sizeOf3 → Zs3, sizeOf38 → Zs38, sizeOf40 → Zs40, sizeOf54 → Zs54, sizeOf9 → Zs9, sizeOf90 → Zs90, underlying106 → Zu106, underlying119 → Zu119, underlying22 → Zu22, underlying26 → Zu26, underlying3 → Zu3, underlying31 → Zu31, underlying38 → Zu38, underlying40 → Zu40, underlying43 → Zu43, underlying48 → Zu48, underlying54 → Zu54, underlying56 → Zu56, underlying77 → Zu77, underlying9 → Zu9, underlying90 → Zu90, zeroValue40 → Zv40, zeroValue90 → Zv90
set_option linter.unusedSimpArgs false
set_option linter.unusedVariables false
namespace Go.Proofs.YtbljooblpfdbiaaGreatDoor
open Go Go.Proofs.YtbljooblpfdbiaaGreatDoor.X
theorem sortB_sorted {l : DIR} (h : Srtd l) : sortB (l.map (·.1)) = l.map (·.1) := by
  rw [sortB, List.mergeSort_of_pairwise, List.map_map]
  · exact (List.map_congr_left (fun x _ => by cases x; simp)).trans (List.map_id _)
  · rw [List.pairwise_map, List.pairwise_map]
    exact h.imp fun {p q} hpq => by
      rw [sless_lt] at hpq
      exact decide_eq_true (List.le_of_lt (of_decide_eq_true hpq))
theorem Tie.names {s : DS} {t : RS} (h : Tie s t) (hok : s.Ok) : sortB (s.dir.map (·.1)) = t.dir.map (·.1) := by
  rw [← sortB_perm (keys_perm h.dir hok.nd), sortB_sorted h.dir.2]
structure Tw (g : Nat) (ca cb : Nat → Nat) (w : World) (b x m : Nat) (r : Int) (s : DS) (t : RS) : Prop where
  D : DkR ca w b s
  X : RkR cb w x t
  ap : ∀ q, ca q ≠ 0 → cb q = 0
  inv : s.Inv
  fit : s.Fits r
  tie : Tie s t
  sz : s.size ≤ m
  lo : ∀ q, q < g → ca q = 0 ∧ cb q = 0
  gw : g ≤ w.heap.size
structure Md (g : Nat) (ca ca' cb : Nat → Nat) (w w1 : World) (b x m : Nat) (r : Int) (s s1 : DS) (t : RS) : Prop where
  T : Tw g ca cb w b x m r s t
  D : DkR ca' w1 b s1
  st : Stp ca w ca' w1
section
variable {g b x m m' : Nat} {ca cb ca' cb' : Nat → Nat} {w w1 w2 : World} {r : Int} {s s1 : DS} {t t1 : RS}
theorem Tw.ok (h : Tw g ca cb w b x m r s t) (hm : m ≤ 40000) : t.Ok := h.tie.ok h.inv.ok (by have := h.sz; omega)
theorem Tw.ext (h : Tw g ca cb w b x m r s t) {T : Nat → Prop} (y : Ext T w w1) (hT : ∀ q, ca q ≠ 0 ∨ cb q ≠ 0 → ¬ T q) : Tw g ca cb w1 b x m r s t :=
  ⟨h.D.ext y fun q hq => hT q (.inl hq), h.X.ext y fun q hq => hT q (.inr hq), h.ap, h.inv, h.fit, h.tie, h.sz, h.lo, Nat.le_trans h.gw y.size⟩
theorem Tw.keep (h : Tw g ca cb w b x m r s t) (y : Keep w w1) : Tw g ca cb w1 b x m r s t := h.ext y fun _ _ h => h
theorem Md.X (h : Md g ca ca' cb w w1 b x m r s s1 t) : RkR cb w1 x t := h.T.X.ext h.st.ext fun q hq e => hq (h.T.ap q e)
theorem Md.next (h : Md g ca ca' cb w w1 b x m r s s1 t) (h2 : RkR cb' w2 x t1) (s2 : Stp cb w1 cb' w2) (hi : s1.Inv) (hf : s1.Fits r) (ht : Tie s1 t1) (hz : s1.size ≤ m') : Tw g ca' cb' w2 b x m' r s1 t1 := by
  have hap : ∀ q, ca' q ≠ 0 → cb q = 0 := fun q hq => by
    rcases Nat.lt_or_ge q w.heap.size with hl | hl
    · exact h.T.ap q (by rw [← h.st.1 q hl]; exact hq)
    · exact Classical.byContradiction fun e => by have := h.T.X.lt q e; omega
  refine ⟨h.D.ext s2.2 fun q hq e => e (hap q hq), h2, fun q hq => (s2.1 q (h.D.lt q hq)).trans (hap q hq), hi, hf, ht, hz, fun q hq => ?_, ?_⟩
  · have hg := h.T.gw
    have h1 := h.st.2.size
    exact ⟨(h.st.1 q Zz).trans (h.T.lo q hq).1, (s2.1 q Zz).trans (h.T.lo q hq).2⟩
  · exact Nat.le_trans h.T.gw (Nat.le_trans h.st.2.size s2.2.size)
theorem size_create (nm : ByteArray) : (s.create nm).2.size ≤ s.size + 2 := by
  rw [DS.create]
  repeat' split
  all_goals (simp [DS.size, DS.note, DS.did]; try omega)
theorem size_sync (nm : ByteArray) : (s.sync nm).2.size ≤ s.size + 2 := by
  rw [DS.sync]
  repeat' split
  all_goals (simp [DS.size, DS.did]; try omega)
theorem size_write (nm : ByteArray) (a : Int) (y : List UInt8) : (s.write nm a y).2.size ≤ s.size + 2 := by
  rw [DS.write]
  repeat' split
  all_goals (simp [DS.size, DS.did]; try omega)
theorem createT1_c (h : Tw g ca cb w b x m r s t) (hm : m ≤ 40000) (nm : ByteArray) (hn : nm.size ≤ 9223372036854775807) : Ret Tryz.prog 31 #[ptrV b, .string nm] w fun v w1 => v = .int .i64 (s.create nm).1 ∧ ∃ ca', Md g ca ca' cb w w1 b x m r s (s.create nm).2 t ∧ Ext (fun q => ca q ≠ 0) w w1 := by
  have hok := h.inv.ok
  have hsz := h.sz
  exact (createR_c h.D hok nm hn Zz).mono fun v w1 ⟨h1, ca', h2, h3⟩ => ⟨h1, ca', ⟨h, h2, h3⟩, h3.2⟩
theorem createT2_c (nm : ByteArray) (h : Md g ca ca' cb w w1 b x m r s (s.create nm).2 t) (hm : m ≤ 40000)  : Ret Tryz.prog 32 #[ptrV x, .string nm] w1 fun v w2 => v = .int .i64 (s.create nm).1 ∧ ∃ cb', Tw g ca' cb' w2 b x (m + 2) r (s.create nm).2 (t.create nm).2 ∧ (∀ q, q < w1.heap.size → cb' q = cb q) ∧ Ext (fun q => cb q ≠ 0) w1 w2 := by
  have hok := h.T.inv.ok
  have hsz := h.T.sz
  have htk := h.T.ok hm
  have hsf : s.fs.length + s.chs.length ≤ 40000 := by have h0 : s.fs.length + s.chs.length = s.size := rfl; omega
  have hl1 := h.T.tie.len
  have hl2 : t.chs.length = s.chs.length := by rw [h.T.tie.chs]
  obtain ⟨e1, e2⟩ := h.T.tie.create hok nm
  obtain ⟨vF, vD, vX, vC, pt, hB⟩ := h.X
  exact (RCreate_c nm _ hB htk ⟨by omega, by omega⟩).mono fun v w2 ⟨h1, cb', h2, h3⟩ => ⟨h1.trans (by rw [e1]), cb', h.next h2 h3 (h.T.inv.create nm) (h.T.fit.create h.T.inv nm) e2 (by have := size_create (s := s) nm; omega), h3.1, h3.2⟩
end
def LfS (lo hi : Nat) (w : World) (A : Option Addr) (n : Nat) (l : List LEAF) : Prop := ∃ L, Sl KLf lo hi w A n L ∧ NdLf.All (fun k => lo ≤ k ∧ k < hi) w L l
abbrev rnL (b : Nat) (nm : ByteArray) (A : Option Addr) (n c : Nat) (k : Nat) : List Value := [ptrV b, .string nm, .slice A n c, .int .i64 (k : Int)]
def RunO (lo hi : Nat) (w : World) (r b : Nat) (nm : ByteArray) (l : List LEAF) (k : Nat) : Prop := ∃ A c, Blk w r (rnL b nm A l.length c k) 56 ∧ l.length ≤ c ∧ LfS lo hi w A l.length l
section
variable {lo hi r b k : Nat} {w w' : World} {nm : ByteArray} {l : List LEAF} {A : Option Addr} {n : Nat}
theorem LfS.ext (h : LfS lo hi w A n l) {T : Nat → Prop} (x : Ext T w w') (hT : ∀ q, lo ≤ q → q < hi → ¬ T q) : LfS lo hi w' A n l := let ⟨L, h1, h2⟩ := h; ⟨L, h1.ext x hT, Nd.All.ext h2 x fun q hq => hT q hq.1 hq.2⟩
theorem LfS.keep (h : LfS lo hi w A n l) (x : Keep w w') : LfS lo hi w' A n l := h.ext x fun _ _ _ h => h
theorem RunO.ext (h : RunO lo hi w r b nm l k) {T : Nat → Prop} (x : Ext T w w') (hr : ¬ T r) (hT : ∀ q, lo ≤ q → q < hi → ¬ T q) : RunO lo hi w' r b nm l k := let ⟨A, c, h1, h2, h3⟩ := h; ⟨A, c, h1.ext x hr, h2, h3.ext x hT⟩
theorem RunO.keep (h : RunO lo hi w r b nm l k) (x : Keep w w') : RunO lo hi w' r b nm l k := h.ext x id fun _ _ _ h => h
theorem nrow_lf {tb base m : Nat} {S G : Nat → Prop} {v : Value} {L : List LH} (h : NRow NdLf tb base m S G w v L l) : ∃ A c, v = .slice A l.length c ∧ l.length ≤ c ∧ LfS base w.heap.size w A l.length l := by
  obtain ⟨A, c, e, hc, hs⟩ := h.rd
  exact ⟨A, c, e, hc, L, hs.wide (Nat.le_refl _) h.l1, Nd.All.mono h.d h.g⟩
theorem LfS.get (h : LfS lo hi w A n l) {i : Nat} {q : LEAF} (hq : l[i]? = some q) : ∃ L x, Sl KLf lo hi w A n L ∧ L[i]? = some x ∧ x.1 = q.1 ∧ x.2.1 = q.2.1 ∧ x.2.2.2.1 ≤ x.2.2.2.2 ∧ Sl KV lo hi w x.2.2.1 x.2.2.2.1 q.2.2 := by
  obtain ⟨L, h1, h2⟩ := h
  obtain ⟨x, hx⟩ : ∃ x, L[i]? = some x := ⟨_, List.getElem?_eq_getElem (by rw [h2.1]; exact (List.getElem?_eq_some_iff.1 hq).1)⟩
  obtain ⟨q', g1, g2, g3, g4, lo', hi', g5, g6⟩ := h2.2 i x hx
  rw [hq] at g1; cases g1
  exact ⟨L, x, h1, hx, g2, g3, g4, kv_tight g6 fun k a b => g5 k a b⟩
end
theorem made_c {lo hi r b k : Nat} {nm : ByteArray} {l : List LEAF} (w : World) (h : RunO lo hi w r b nm l k) : Ret Tryz.prog 44 #[ptrV r] w fun v w' => v = .bool true ∧ Keep w w' := by
 obtain ⟨A, c, hB, hlc, hL⟩ := h
 refine X.enter Tryz.func44 rfl Tryz.ntmps44 rfl<|Zs<|Zr<|Zoa rfl rfl<|Ze<|Zs<|Zr<|Zom rfl rfl<|Zo (X.nePtrN (A := some _) Zu31 rfl rfl) rfl<|Zomt rfl rfl<|Zg (X.move rfl) rfl rfl rfl rfl<|Zg (X.nilCk rfl) rfl rfl rfl rfl<|Zg (X.fldB (j := 0) Zu56 rfl rfl Tryz.sizeOf26 rfl) rfl rfl rfl rfl<|Zg (X.load1B Tryz.isAgg26 hB rfl rfl) rfl rfl rfl rfl<|Zg (X.nePtrN (A := some _) Zu26 rfl rfl) rfl rfl rfl rfl<|Zo (ZdTt rfl rfl) rfl<|Zoat rfl rfl<|Ze<|X.ret1 (v := (.bool _)) Tryz.func44 Tryz.results44 rfl ?_
 exact ⟨rfl, (Keep.refl _)⟩
def NobR (w : World) (p : Option Addr) : Prop := p = none ∨ ∃ r, p = some ⟨r, 0, none⟩ ∧ Blk w r [.pointer none, .string ⟨#[]⟩, .slice none 0 0, .int .i64 0] 56
theorem NobR.keep {w w' : World} {p : Option Addr} (h : NobR w p) (x : Keep w w') : NobR w' p := h.imp id fun ⟨r, e, h⟩ => ⟨r, e, h.keep x⟩
theorem Len_c {lo hi r b k : Nat} {nm : ByteArray} {l : List LEAF} (w : World) (h : RunO lo hi w r b nm l k) : Ret Tryz.prog 25 #[ptrV r] w fun v w' => v = .tuple #[.int .i64 (l.length : Int), .int .i64 (k : Int)] ∧ Keep w w' := by
 obtain ⟨A, c, hB, hlc, hL⟩ := id h
 have hrl := hB.lt
 obtain ⟨Lr, hsr, hLr⟩ := id hL
 have hsl := hsr.len
 have hsb := hsr.bound
 refine X.enter Tryz.func25 rfl Tryz.ntmps25 rfl<|Zs<|Zr<|Zoa rfl rfl<|Zoa rfl rfl<|Ze<|Zs<|Zs<|Zr<|Zom rfl rfl<|Zc (X.callE (made_c _ (h.keep (Keep.refl _))) Zc44 rfl rfl) rfl ?_
 rintro _ w1 ⟨rfl, hk1⟩
 have hk1' := hk1.size
 refine Zo (X.not_ rfl) rfl<|Ze<|Zf rfl<|Zk<|Zs<|X.regionD (fun _ => False) 10 Zl Zl (fun w2 hk2 hz2 => ?_)
 refine ZDc 0 rfl Zl (X.move rfl)<|ZDc 1 rfl Zl (X.nilCk rfl)<|ZDc 2 rfl Zl (X.fldB (j := 2) Zu56 rfl rfl Zs54 rfl)<|ZD 3 rfl Zl (fun w' hk' => X.load1B Zi54 (hB.keep ((hk1.trans hk2).trans hk')) rfl rfl)<|ZDc 4 rfl Zl (X.lenSl Zu54 rfl)<|ZDc 5 rfl Zl (X.move rfl)<|ZDc 6 rfl Zl (X.nilCk rfl)<|ZDc 7 rfl Zl (X.fldB (j := 3) Zu56 rfl rfl Zs3 rfl)<|ZD 8 rfl Zl (fun w' hk' => X.load1B Zi3 (hB.keep ((hk1.trans hk2).trans hk')) rfl rfl)<|ZDc 9 rfl Zl (Zdai rfl)<|X.dStep (i := 10) Zl rfl (X.dwN rfl) (X.assign (v := .int .i64 _) rfl) (fun h => absurd h (by decide))<|Zdend Zl<|X.ret2 (v1 := (.int .i64 _)) (v2 := (.int .i64 _)) Tryz.func25 Tryz.results25 rfl rfl ?_
 exact ⟨rfl, (hk1.trans hk2)⟩
theorem at_ok {lo hi r b k : Nat} {nm : ByteArray} {l : List LEAF} (w : World) (h : RunO lo hi w r b nm l k) (i : Nat) {q : LEAF} (hq : l[i]? = some q) : Ret Tryz.prog 42 #[ptrV r, .int .i64 (i : Int)] w fun v w' => (∃ A' n' c', v = .tuple #[.agg #[.int .i64 (q.1 : Int), .int .i64 (q.2.1 : Int), .slice A' n' c'], .int .i64 0] ∧ n' ≤ c' ∧ Sl KV lo hi w A' n' q.2.2) ∧ Keep w w' := by
 obtain ⟨A, c, hB, hlc, hL⟩ := id h
 have hrl := hB.lt
 obtain ⟨Lr, hsr, hLr⟩ := id hL
 have hsl := hsr.len
 have hsb := hsr.bound
 have hil := (List.getElem?_eq_some_iff.1 hq).1
 obtain ⟨L2, x, hsL2, hx, x1, x2, x3, hxs⟩ := hL.get hq
 refine X.enter Tryz.func42 rfl Tryz.ntmps42 rfl<|Zs<|Zr<|Zc (X.allocE Tryz.zeroValue106 rfl) rfl ?_
 rintro _ w1 ⟨rfl, hB1, hk1, hz1⟩
 refine Zoa rfl rfl<|Ze<|Zs<|Zb<|Zs<|Zr<|Zom rfl rfl<|Zc (X.callE (made_c _ (h.keep hk1)) Zc44 rfl rfl) rfl ?_
 rintro _ w2 ⟨rfl, hk2⟩
 have hk2' := hk2.size
 refine Zo (X.not_ rfl) rfl<|Zoaf rfl rfl<|Ze<|Zf rfl<|Zs<|Zr<|Zomi rfl rfl<|X.opP X.wN rfl rfl (X.lss rfl rfl) (fun h13 => ?_) (fun h13 => ?_)
 ·omega
 ·refine Zomf rfl rfl<|Zg (Zdmi rfl) rfl rfl rfl rfl<|Zg (X.move rfl) rfl rfl rfl rfl<|Zg (X.nilCk rfl) rfl rfl rfl rfl<|Zg (X.fldB (j := 2) Zu56 rfl rfl Zs54 rfl) rfl rfl rfl rfl<|Zg (X.load1B Zi54 (hB.keep (hk1.trans hk2)) rfl rfl) rfl rfl rfl rfl<|Zg (X.lenSl Zu54 rfl) rfl rfl rfl rfl<|X.opP (X.wG rfl rfl rfl) rfl rfl (X.geq rfl rfl) (fun h21 => ?_) (fun h21 => ?_)
  ·omega
  ·refine Zo (ZdFf rfl rfl) rfl<|Zoaf rfl rfl<|Ze<|Zf rfl<|Zk<|Zi<|Zs<|Zr<|Zom rfl rfl<|Zo (X.nilCk rfl) rfl<|Zo (X.fldB (j := 2) Zu56 rfl rfl Zs54 rfl) rfl<|Zo (X.load1B Zi54 (hB.keep (hk1.trans hk2)) rfl rfl) rfl<|Zomi rfl rfl<|Zo (X.idxS (hsL2.keep (hk1.trans hk2)) Zu54 Zs106 rfl rfl ⟨by omega, by omega⟩) rfl<|Zo (X.loadSN Tryz.isAgg106 Zs106 (hsL2.keep (hk1.trans hk2)) hx rfl (fun _ h => h.1) rfl) rfl<|Zc (X.storeNE Zs106 (hB1.keep hk2) rfl rfl rfl rfl (fun u hu => by simp at hu; rcases hu with rfl | rfl | rfl <;> rfl)) rfl ?_
   rintro _ w3 ⟨hB3, hx3, hz3⟩
   refine Zoa rfl rfl<|Ze ?_
   refine X.ret_unw (X.unwR2 Tryz.func42 Tryz.results42 (X.ResOk.cell rfl (X.lvN Tryz.isAgg106 Zs106 hB3 rfl)) (show X.ResOk _ _ _ (.tmp 5) (.int .i64 _) from rfl) ?_)
   exact ⟨⟨x.2.2.1, x.2.2.2.1, x.2.2.2.2, by rw [← x1, ← x2], x3, hxs⟩, ((hk1.trans hk2).step hx3 zq34)⟩
theorem half (a b : Nat) : ((a + b : Nat) : Int).fdiv (2 ^ (min ((1 : Int)).toNat IntKind.u64.bits)) = (((a + b) / 2 : Nat) : Int) := by
  have h : min ((1 : Int)).toNat IntKind.u64.bits = 1 := by show min ((1 : Int)).toNat 64 = 1; decide
  rw [h, show (2 : Int) ^ 1 = ((2 : Nat) : Int) from rfl, Int.fdiv_eq_ediv_of_nonneg _ (Int.natCast_nonneg _)]; rfl
theorem search_c (p : Nat → Bool) (fv : Value) (n : Nat) (hn : n ≤ 1000000) (w : World) (hf : ∀ i w', Keep w w' → i < n → YC Tryz.prog fv [.int .i64 (i : Int)] w' fun v w2 => v = .bool (p i) ∧ Keep w' w2) : Ret Tryz.prog 45 #[.int .i64 (n : Int), fv] w fun v w' => (∃ i : Nat, v = .int .i64 (i : Int) ∧ i ≤ n ∧ (∀ j, j + 1 = i → p j = false) ∧ (i < n → p i = true)) ∧ Keep w w' := by
 refine X.enter Tryz.func45 rfl Tryz.ntmps45 rfl<|Zs<|Zr<|Zoa rfl rfl<|Ze<|Zs<|Zr<|Zomi rfl rfl<|Zoa rfl rfl<|Zoai rfl rfl<|Ze<|Zs<|Zb<|X.loopL (σ := Nat × Nat) (fun s => [(1, fv), (5, .int .i64 (s.1 : Int)), (6, .int .i64 (s.2 : Int))]) (fun s w' => s.1 ≤ s.2 ∧ s.2 ≤ n ∧ (∀ q, q + 1 = s.1 → p q = false) ∧ (s.2 < n → p s.2 = true) ∧ Keep w w') (fun s => s.2 - s.1) (0, n) ⟨rfl, rfl, rfl, trivial⟩ ⟨Nat.zero_le _, Nat.le_refl _, fun q h => by (try dsimp only at h); omega, fun h => by (try dsimp only at h); omega, (Keep.refl _)⟩ ?_
 rintro ⟨i, j⟩ b w1 ⟨hij, hjn, hp1, hp2, hk⟩ hback
 dsimp only
 dsimp only at hij hjn hp1 hp2
 have hk0 := hk.size
 refine Zs<|Zs<|Zr<|Zomi rfl rfl<|Zomi rfl rfl<|X.opP X.wN rfl rfl (X.lss rfl rfl) (fun h11 => ?_) (fun h11 => ?_)
 ·refine Ze<|Zt rfl<|Zk<|Zb<|Zs<|Zr<|Zomi rfl rfl<|Zomi rfl rfl<|Zo (X.add (c := ((i + j : Nat) : Int)) rfl rfl (by rw [X.w_i64 Zz]; omega)) rfl ?_
  refine Zo (X.cvI Zu3 Zu77 rfl (X.w_u64 Zz)) rfl<|Zo (X.shr (c := (((i + j) / 2 : Nat) : Int)) rfl rfl (by decide) (half i j)) rfl<|Zo (X.cvI Zu77 Zu3 rfl (X.w_i64 Zz)) rfl<|Zoai rfl rfl<|Ze<|Zs<|Zr<|Zom rfl rfl<|Zomi rfl rfl<|Zc ((hf ((i + j) / 2) _ hk Zz) _ _ _ _ _ _ _ _ _ rfl rfl) rfl ?_
  rintro _ w1 ⟨rfl, hk1⟩
  have hk1' := hk1.size
  refine Zo (X.not_ rfl) rfl<|Ze<|X.condB rfl (fun hc21 => ?_) (fun hc21 => ?_)
  ·refine Zr<|Zomi rfl rfl<|Zo (X.add (c := (((i + j) / 2 + 1 : Nat) : Int)) rfl rfl (by rw [X.w_i64 Zz]; omega)) rfl ?_
   refine Zoai rfl rfl<|Ze<|Zi ?_
   refine hback ((i + j) / 2 + 1, j) _ _ ⟨rfl, rfl, rfl, trivial⟩ ⟨by (try dsimp only); omega, hjn, fun q hq => by (try dsimp only at hq); rw [show q = (i + j) / 2 by omega]; simpa using hc21, hp2, (hk.trans hk1)⟩ (by (try dsimp only); omega)
  ·refine Zr<|Zomi rfl rfl<|Zoai rfl rfl<|Ze<|Zi ?_
   refine hback (i, (i + j) / 2) _ _ ⟨rfl, rfl, rfl, trivial⟩ ⟨by (try dsimp only); omega, by (try dsimp only); omega, hp1, fun _ => by simpa using hc21, (hk.trans hk1)⟩ (by (try dsimp only); omega)
 ·refine Ze<|Zf rfl<|Zx rfl<|Zs<|Zr<|Zomi rfl rfl<|Zoai rfl rfl<|Ze<|X.ret1 (v := (.int .i64 _)) Tryz.func45 Tryz.results45 rfl ?_
  have hij' : i = j := by omega
  subst hij'
  exact ⟨⟨i, rfl, hjn, hp1, hp2⟩, hk⟩
theorem find1_c {lo hi r b k lo2 hi2 b1 b2 : Nat} {nm : ByteArray} {l : List LEAF} {A2 : Option Addr} {n2 c2 : Nat} {t : List VAL} (w : World) (h : RunO lo hi w r b nm l k) (h1 : Blk w b1 [ptrV r] 31) (h2 : Blk w b2 [.slice A2 n2 c2] 38) (ht : Sl KV lo2 hi2 w A2 n2 t) (i : Nat) {q : LEAF} (hq : l[i]? = some q) : Ret Tryz.prog 46 #[.int .i64 (i : Int), .pointer (some ⟨b1, 0, none⟩), .pointer (some ⟨b2, 0, none⟩)] w fun v w' => v = .bool (decide (cmpT q.2.2 t > 0)) ∧ Keep w w' := by
 obtain ⟨A, c, hB, hlc, hL⟩ := id h
 have hrl := hB.lt
 obtain ⟨Lr, hsr, hLr⟩ := id hL
 have hsl := hsr.len
 have hsb := hsr.bound
 have hil := (List.getElem?_eq_some_iff.1 hq).1
 obtain ⟨L2, x, hsL2, hx, x1, x2, x3, hxs⟩ := hL.get hq
 refine X.enter Tryz.func46 rfl Tryz.ntmps46 rfl<|Zs<|Zr<|Zoa rfl rfl<|Ze<|Zs<|X.regionD (fun _ => False) 11 Zl Zl (fun w1 hk1 hz1 => ?_)
 refine ZD 0 rfl Zl (fun w' hk' => X.load1B Zi31 (h1.keep (hk1.trans hk')) rfl rfl)<|ZDc 1 rfl Zl (X.nilCk rfl)<|ZDc 2 rfl Zl (X.fldB (j := 2) Zu56 rfl rfl Zs54 rfl)<|ZD 3 rfl Zl (fun w' hk' => X.load1B Zi54 (hB.keep (hk1.trans hk')) rfl rfl)<|ZDc 4 rfl Zl (Zdmi rfl)<|ZD 5 rfl Zl (fun w' hk' => X.idxS (hsL2.keep (hk1.trans hk')) Zu54 Zs106 rfl rfl ⟨by omega, by omega⟩)<|ZDc 6 rfl Zl (X.fldA Zu106 rfl rfl Zs38)<|ZD 7 rfl Zl (fun w' hk' => X.loadSf (o := 2) Zi38 (hsL2.keep (hk1.trans hk')) hx rfl (fun _ h => by rw [h.1]; rfl)) ?_
 refine ZD 8 rfl Zl (fun w' hk' => X.load1B Zi38 (h2.keep (hk1.trans hk')) rfl rfl)<|X.dE (i := 9) Zl rfl (X.dwN rfl) (X.callE (tupleCompare_c _ (hxs.keep hk1) (ht.keep hk1)) Tryz.call47 rfl rfl) (by rintro _ w2 ⟨rfl, hk2⟩ _; exact hk2.mono (fun _ _ h => h.elim)) ?_
 rintro _ w2 ⟨rfl, hk2⟩
 have hk2' := hk2.size
 refine ZDc 10 rfl Zl (X.gtr rfl rfl)<|X.dStep (i := 11) Zl rfl (X.dwN rfl) (X.assign (v := .bool _) rfl) (fun h => absurd h (by decide))<|Zdend Zl<|X.ret1 (v := (.bool _)) Tryz.func46 Tryz.results46 rfl ?_
 exact ⟨rfl, (hk1.trans hk2)⟩
def fndN (l : List LEAF) (t : List VAL) : Nat := (l.takeWhile fun q => decide (cmpT q.2.2 t ≤ 0)).length
def Asc (l : List LEAF) : Prop := l.Pairwise fun p q => cmpT p.2.2 q.2.2 < 0
theorem fnd_at {l : List LEAF} {t : List VAL} (ha : Asc l) {i : Nat} (hi : i ≤ l.length) (h1 : ∀ j q, j + 1 = i → l[j]? = some q → cmpT q.2.2 t ≤ 0) (h2 : ∀ q, l[i]? = some q → 0 < cmpT q.2.2 t) : fndN l t = i := by
  have hall : ∀ j q, j < i → l[j]? = some q → cmpT q.2.2 t ≤ 0 := fun j q hj hq => by
    obtain ⟨p, hp⟩ : ∃ p, l[i - 1]? = some p := ⟨_, List.getElem?_eq_getElem Zz⟩
    have hb := h1 (i - 1) p Zz hp
    rcases Nat.lt_or_ge j (i - 1) with hlt | hge
    · obtain ⟨g1, e1⟩ := List.getElem?_eq_some_iff.1 hq
      obtain ⟨g2, e2⟩ := List.getElem?_eq_some_iff.1 hp
      have := List.pairwise_iff_getElem.1 ha j (i - 1) g1 g2 hlt
      rw [e1, e2] at this
      exact cmpT_le (Int.le_of_lt this) hb
    · rw [show j = i - 1 by omega, hp] at hq; cases hq; exact hb
  have e : l.takeWhile (fun q => decide (cmpT q.2.2 t ≤ 0)) = l.take i := by
    have hs : l = l.take i ++ l.drop i := (List.take_append_drop i l).symm
    rw [hs, List.takeWhile_append_of_pos]
    · rw [List.take_append_drop]
      cases hd : l.drop i with
      | nil => simp
      | cons q r =>
        have hq : l[i]? = some q := by
          have := congrArg (fun z => z[0]?) hd
          simpa using this
        rw [List.takeWhile_cons, if_neg (by have := h2 q hq; simp; omega), List.append_nil]
    · intro q hq
      obtain ⟨j, hj⟩ := List.getElem?_of_mem hq
      rw [List.getElem?_take] at hj
      split at hj
      · rename_i hji; exact decide_eq_true (hall j q hji hj)
      · cases hj
  rw [fndN, e, List.length_take, Nat.min_eq_left hi]
def pAt (l : List LEAF) (t : List VAL) (i : Nat) : Bool := match l[i]? with
  | some q => decide (cmpT q.2.2 t > 0)
  | none => false
theorem pAt_at {l : List LEAF} {t : List VAL} {i : Nat} {q : LEAF} (h : l[i]? = some q) : pAt l t i = decide (cmpT q.2.2 t > 0) := by rw [pAt, h]
theorem RuFind_c {lo hi r b k : Nat} {nm : ByteArray} {l : List LEAF} (w : World) (h : RunO lo hi w r b nm l k) (hl : l.length ≤ 1000000) (ha : Asc l) {lo2 hi2 : Nat} {A2 : Option Addr} {n2 c2 : Nat} {t : List VAL} (ht : Sl KV lo2 hi2 w A2 n2 t) : Ret Tryz.prog 16 #[ptrV r, .slice A2 n2 c2] w fun v w' => v = .int .i64 ((fndN l t : Int) - 1) ∧ Keep w w' := by
 obtain ⟨A, c, hB, hlc, hL⟩ := id h
 have hrl := hB.lt
 obtain ⟨Lr, hsr, hLr⟩ := id hL
 have hsl := hsr.len
 have hsb := hsr.bound
 refine X.enter Tryz.func16 rfl Tryz.ntmps16 rfl<|Zs<|Zr<|Zc (X.boxE rfl rfl) rfl ?_
 rintro _ w1 ⟨rfl, hB1, hk1, hz1⟩
 refine Zc (X.boxE rfl rfl) rfl ?_
 rintro _ w2 ⟨rfl, hB2, hk2, hz2⟩
 refine Zoa rfl rfl<|Ze<|Zs<|Zs<|Zr<|Zo (X.load1B Zi31 (hB1.keep hk2) rfl rfl) rfl<|Zc (X.callE (made_c _ (h.keep (hk1.trans hk2))) Zc44 rfl rfl) rfl ?_
 rintro _ w3 ⟨rfl, hk3⟩
 have hk3' := hk3.size
 refine Zo (X.not_ rfl) rfl<|Ze<|Zf rfl<|Zk<|Zs<|Zr<|Zo (X.load1B Zi31 (hB1.keep (hk2.trans hk3)) rfl rfl) rfl<|Zo (X.nilCk rfl) rfl<|Zo (X.fldB (j := 2) Zu56 rfl rfl Zs54 rfl) rfl<|Zo (X.load1B Zi54 (hB.keep ((hk1.trans hk2).trans hk3)) rfl rfl) rfl<|Zo (X.lenSl Zu54 rfl) rfl<|Zo (X.mkFunc rfl) rfl ?_
 refine X.opE X.wN rfl (X.callE (search_c (pAt l t) _ l.length Zz _ (fun i wi hki hi => by
   obtain ⟨q, hq⟩ : ∃ q, l[i]? = some q := ⟨_, List.getElem?_eq_getElem hi⟩
   rw [pAt_at hq]
   exact YC.of_ret (cap := [.pointer (some ⟨w.heap.size, 0, none⟩), .pointer (some ⟨w1.heap.size, 0, none⟩)]) (find1_c wi ((h.keep ((hk1.trans hk2).trans hk3)).keep hki) ((hB1.keep (hk2.trans hk3)).keep hki) ((hB2.keep hk3).keep hki) ((ht.keep ((hk1.trans hk2).trans hk3)).keep hki) i hq) Tryz.call46)) Tryz.call45 rfl rfl) ?_
 rintro _ w4 ⟨⟨i, rfl, hin, hp1, hp2⟩, hk4⟩
 have hk4' := hk4.size
 refine Zo (X.sub rfl rfl (X.w_i64 Zz)) rfl<|Zoai rfl rfl<|Ze<|X.ret1 (v := (.int .i64 _)) Tryz.func16 Tryz.results16 rfl ?_
 rw [fnd_at ha hin (fun j q hj hq => by have := hp1 j hj; rw [pAt_at hq] at this; have := of_decide_eq_false this; omega) (fun q hq => by have := hp2 (List.getElem?_eq_some_iff.1 hq).1; rw [pAt_at hq] at this; exact of_decide_eq_true this)]
 exact ⟨rfl, (((hk1.trans hk2).trans hk3).trans hk4)⟩
theorem Page_ok {col : Nat → Nat} {s : DS} {lo hi r b k : Nat} {nm : ByteArray} {l : List LEAF} (w : World) (h : RunO lo hi w r b nm l k) (hhi : hi ≤ w.heap.size) (hD : DkR col w b s) (hok : s.Ok) (hTb : TabOk w) (i : Nat) {q : LEAF} (hq : l[i]? = some q) (hq1 : q.1 ≤ 1000000 ∧ q.2.1 ≤ 1000000) (hrd : (s.read nm (q.1 : Int) (q.2.1 : Int)).2 = 0) (hrl : (s.read nm (q.1 : Int) (q.2.1 : Int)).1.length ≤ 1000000) : Ret Tryz.prog 15 #[ptrV r, .int .i64 (i : Int)] w fun rv w' => (match pgP (s.read nm (q.1 : Int) (q.2.1 : Int)).1 q.2.2 with
    | some p => ∃ v L m S G, rv = .tuple #[v, .int .i64 0] ∧ NRow NdCt 40 w.heap.size m S G w' v L p
    | none => rv = .tuple #[.slice none 0 0, .int .i64 71]) ∧ Keep w w' := by
 obtain ⟨Aq, cq, hBq, _⟩ := id h
 refine X.enter Tryz.func15 rfl Tryz.ntmps15 rfl<|Zs<|Zr<|Zoa rfl rfl<|Zoa rfl rfl<|Ze<|Zs<|Zr<|Zom rfl rfl<|Zomi rfl rfl<|Zc (X.callE (at_ok _ (h.keep (Keep.refl _)) i hq) Tryz.call42 rfl rfl) rfl ?_
 rintro _ w1 ⟨⟨At, nt, ct, rfl, hnt, hts⟩, hk1⟩
 have hk1' := hk1.size
 refine Zom rfl rfl<|Zo (X.extr rfl rfl) rfl<|Zo (X.extr rfl rfl) rfl<|Zc (X.allocE Tryz.zeroValue106 rfl) rfl ?_
 rintro _ w2 ⟨rfl, hB2, hk2, hz2⟩
 refine Zc (X.storeNE Zs106 hB2 rfl rfl rfl rfl (fun u hu => by simp at hu; rcases hu with rfl | rfl | rfl <;> rfl)) rfl ?_
 rintro _ w3 ⟨hB3, hx3, hz3⟩
 refine Zoai rfl rfl<|Ze<|Zs<|Zs<|Zr<|Zomi rfl rfl<|X.opP X.wN rfl rfl (X.neI rfl rfl) (fun h16 => ?_) (fun h16 => ?_)
 ·exact absurd rfl h16
 ·refine Ze<|Zf rfl<|Zk<|Zs<|X.regionD (fun _ => False) 17 Zl Zl (fun w4 hk4 hz4 => ?_)
  refine ZDc 0 rfl Zl (X.move rfl)<|ZDc 1 rfl Zl (X.nilCk rfl)<|ZDc 2 rfl Zl (X.fldB (j := 0) Zu56 rfl rfl Tryz.sizeOf26 rfl)<|ZD 3 rfl Zl (fun w' hk' => X.load1B Tryz.isAgg26 (hBq.keep ((((hk1.trans hk2).step hx3 zq34).trans hk4).trans hk')) rfl rfl) ?_
  refine ZDc 4 rfl Zl (X.move rfl)<|ZDc 5 rfl Zl (X.nilCk rfl)<|ZDc 6 rfl Zl (X.fldB (j := 1) Zu56 rfl rfl Zs9 rfl)<|ZD 7 rfl Zl (fun w' hk' => X.load1B Zi9 (hBq.keep ((((hk1.trans hk2).step hx3 zq34).trans hk4).trans hk')) rfl rfl) ?_
  refine ZDc 8 rfl Zl (X.fldB (j := 0) Zu106 rfl rfl Zs3 rfl)<|ZD 9 rfl Zl (fun w' hk' => X.load1B Zi3 (hB3.keep (hk4.trans hk')) rfl rfl)<|ZDc 10 rfl Zl (X.fldB (j := 1) Zu106 rfl rfl Zs3 rfl)<|ZD 11 rfl Zl (fun w' hk' => X.load1B Zi3 (hB3.keep (hk4.trans hk')) rfl rfl)<|X.dE (i := 12) Zl rfl (X.dwN rfl) (X.callE (readR_c (hD.keep (((hk1.trans hk2).step hx3 zq34).trans hk4)) hok nm _ _ ⟨by omega, by omega, by omega, by omega⟩) Tryz.call40 rfl rfl) (by rintro _ w5 ⟨vr, rfl, hMr, hk5⟩ _; exact hk5.mono (fun _ _ h => h.elim)) ?_
  rintro _ w5 ⟨vr, rfl, hMr, hk5⟩
  have hk5' := hk5.size
  refine ZDc 13 rfl Zl (X.move rfl)<|ZDc 14 rfl Zl (X.extr rfl rfl)<|ZDc 15 rfl Zl (X.extr rfl rfl)<|ZDc 16 rfl Zl (X.assign rfl)<|X.dStep (i := 17) Zl rfl (X.dwN rfl) (X.assign (v := .int .i64 _) rfl) (fun h => absurd h (by decide))<|Zdend Zl<|Zs<|Zs<|Zr<|Zomi rfl rfl<|X.opP X.wN rfl rfl (X.neI rfl rfl) (fun h35 => ?_) (fun h35 => ?_)
  ·exact absurd hrd h35
  ·refine Ze<|Zf rfl<|Zk<|Zs<|Zr<|Zom rfl rfl<|Zo (X.fldB (j := 2) Zu106 rfl rfl Zs38 rfl) rfl<|Zo (X.load1B Zi38 (hB3.keep (hk4.trans hk5)) rfl rfl) rfl ?_
   have q7 := hMr.slF KB_flat 0 (fun _ _ => Nat.zero_le _)
   obtain ⟨A7, c7, rfl, hc7, hs7⟩ := q7
   refine Zc (X.callE (page_c _ hs7 Zz Zz Zz (hts.keep ((((hk1.trans hk2).step hx3 zq34).trans hk4).trans hk5)) Zz (hTb.keep ((((hk1.trans hk2).step hx3 zq34).trans hk4).trans hk5))) Tryz.call43 rfl rfl) rfl ?_
   rintro vp w6 ⟨hpm, hk6⟩
   have hvp : ∃ a1 a2, vp = .tuple #[a1, .int .i64 a2] := by
     revert hpm
     cases pgP (s.read nm (q.1 : Int) (q.2.1 : Int)).1 q.2.2 with
     | none => rintro rfl; exact ⟨_, _, rfl⟩
     | some p => rintro ⟨v, L, m, S, G, rfl, _⟩; exact ⟨_, _, rfl⟩
   obtain ⟨a1, a2, rfl⟩ := hvp
   have hk6' := hk6.size
   refine Zo (X.extr rfl rfl) rfl<|Zo (X.extr rfl rfl) rfl<|Zoa rfl rfl<|Zoai rfl rfl<|Ze<|X.ret2 (v2 := (.int .i64 _)) Tryz.func15 Tryz.results15 rfl rfl ?_
   refine ⟨?_, (((((hk1.trans hk2).step hx3 zq34).trans hk4).trans hk5).trans hk6)⟩
   revert hpm
   cases pgP (s.read nm (q.1 : Int) (q.2.1 : Int)).1 q.2.2 with
   | none => exact id
   | some p => exact fun ⟨v, L, m, S, G, e, hN⟩ => ⟨v, L, m, S, G, e, hN.low Zz⟩
def DS.runW (nm : ByteArray) (l : List CD) (s : DS) : Int × DS :=
  if isR l = false then (70, s) else if (s.create nm).1 ≠ 0 then s.create nm
  else if ((s.create nm).2.write nm 0 (runB l)).1 ≠ 0 then (s.create nm).2.write nm 0 (runB l)
  else ((s.create nm).2.write nm 0 (runB l)).2.sync nm
theorem DS.Inv.runW {s : DS} (h : s.Inv) (nm : ByteArray) (l : List CD) : (s.runW nm l).2.Inv := by
  rw [DS.runW]; split
  · exact h
  · split
    · exact h.create nm
    · split
      · exact (h.create nm).write nm 0 _
      · exact ((h.create nm).write nm 0 _).sync nm
theorem rWrite_c {col : Nat → Nat} {b : Nat} {s : DS} (nm : ByteArray) {lo hi : Nat} {A : Option Addr} {n c : Nat} {l : List CD} (w : World) (hs : Sl KC lo hi w A n l) (hhi : hi ≤ w.heap.size) (h : DkR col w b s) (hi : s.Inv) (hnm : nm.size ≤ 9223372036854775807) (hsz : s.size ≤ 100000) (hnc : n ≤ c) (hn : n ≤ 100) (hok : Oks l) (hTb : TabOk w) : Ret Tryz.prog 13 #[ptrV b, .string nm, .slice A n c] w fun r w' => r = .int .i64 (s.runW nm l).1 ∧ ∃ col', DkR col' w' b (s.runW nm l).2 ∧ Stp col w col' w' := by
 refine X.enter Zf13 rfl Tryz.ntmps13 rfl<|Zs<|Zr<|Zoa rfl rfl<|Ze<|Zs<|Zr<|Zom rfl rfl<|Zc (X.callE (Bytes_c w hs hhi hnc hn hok hTb) Tryz.call18 rfl rfl) rfl ?_
 rintro _ w1 ⟨vB, rfl, hMB, hk1⟩
 obtain ⟨AB, cB, rfl, hcB, hsB⟩ := hMB.slF KB_flat w.heap.size (fun _ h => h)
 have hz1' := hk1.size
 refine Zom rfl rfl<|Zo (X.extr rfl rfl) rfl<|Zo (X.extr rfl rfl) rfl<|Zoas rfl rfl<|Zoai rfl rfl<|Ze<|Zs<|Zs<|Zr<|Zomi rfl rfl<|X.opP X.wN rfl rfl (X.eqI rfl rfl) (fun h15 => ?_) (fun h15 => ?_)
 ·have hrT : isR l = true := by
    cases hq : isR l with
    | true => rfl
    | false => rw [hq] at h15; exact absurd h15 (by decide)
  have hRl : (if isR l = true then runB l else []) = runB l := if_pos hrT
  have hsB0 := hsB
  rw [hRl] at hsB0
  have hrs := (run_sizes hok hrT (by rw [hs.len]; omega)).2.2.2
  refine Ze<|Zt rfl<|Zr<|Zom rfl rfl<|Zomg rfl rfl<|Zc (X.callE (createR_c (h.keep hk1) hi.ok nm hnm hsz) Tryz.call31 rfl rfl) rfl ?_
  rintro _ w2 ⟨rfl, col1, hD1, hS1⟩
  have hx2 := hS1.2
  have hx2' := hx2.size
  refine Zoai rfl rfl<|Ze<|Zs<|Zs<|Zr<|Zomi rfl rfl<|X.opP X.wN rfl rfl (X.eqI rfl rfl) (fun h20 => ?_) (fun h20 => ?_)
  ·have hsB' := ((sl_cast hsB hRl).ext hx2 (by intro q g1 g2 g3; exact g3 (Classical.byContradiction fun e => by have := h.lt q e; omega)))
   refine Ze<|Zt rfl<|Zr<|Zom rfl rfl<|Zomg rfl rfl<|Zoms rfl rfl<|Zc (X.callE (writeR_c hD1 (hi.create nm).ok nm 0 (by decide) (show Sl KB w.heap.size _ _ AB _ (runB l) from hsB') (fun q g1 g2 => ⟨(hS1.1 q g2).trans (Classical.byContradiction fun e => by have := h.lt q e; omega), by have := hS1.2.size; omega⟩) (by rw [hRl] at *; omega)) Tryz.call37 rfl rfl) rfl ?_
   rintro _ w3 ⟨rfl, col2, hD2, hS2⟩
   have hx3 := hS2.2
   have hx3' := hx3.size
   refine Zoai rfl rfl<|Ze<|Zs<|Zs<|Zr<|Zomi rfl rfl<|X.opP X.wN rfl rfl (X.eqI rfl rfl) (fun h26 => ?_) (fun h26 => ?_)
   ·
    refine Ze<|Zt rfl<|Zr<|Zom rfl rfl<|Zomg rfl rfl<|Zc (X.callE (syncR_c hD2 ((hi.create nm).write nm 0 _).ok nm hnm) Tryz.call38 rfl rfl) rfl ?_
    rintro _ w4 ⟨rfl, col3, hD3, hS3⟩
    have hx4 := hS3.2
    have hx4' := hx4.size
    refine Zoai rfl rfl<|Ze<|Zs<|Zr<|Zomi rfl rfl<|Zoai rfl rfl<|Ze<|X.ret1 (v := (.int .i64 _)) Zf13 Zr13 rfl ?_
    have e : s.runW nm l = ((s.create nm).2.write nm 0 (runB l)).2.sync nm := by rw [DS.runW, if_neg (by rw [hrT]; decide), if_neg (fun e => e h20), if_neg (fun e => e h26)]
    rw [e]
    exact ⟨rfl, col3, hD3, Keep.dk hk1 (hS1.trans (hS2.trans hS3))⟩
   ·have hdead := h26
    refine Ze<|Zf rfl<|Zk<|Zs<|Zr<|Zomi rfl rfl<|Zoai rfl rfl<|Ze<|X.ret1 (v := (.int .i64 _)) Zf13 Zr13 rfl ?_
    have e : s.runW nm l = (s.create nm).2.write nm 0 (runB l) := by rw [DS.runW, if_neg (by rw [hrT]; decide), if_neg (fun e => e h20), if_pos hdead]
    rw [e]
    exact ⟨rfl, col2, hD2, Keep.dk hk1 (hS1.trans hS2)⟩
  ·have hdead := h20
   refine Ze<|Zf rfl<|Zk<|Zs<|Zs<|Zr<|Zomi rfl rfl<|X.opP X.wN rfl rfl (X.eqI rfl rfl) (fun h26 => ?_) (fun h26 => ?_)
   ·exact absurd h26 hdead
   ·
    refine Ze<|Zf rfl<|Zk<|Zs<|Zr<|Zomi rfl rfl<|Zoai rfl rfl<|Ze<|X.ret1 (v := (.int .i64 _)) Zf13 Zr13 rfl ?_
    have e : s.runW nm l = s.create nm := by rw [DS.runW, if_neg (by rw [hrT]; decide), if_pos hdead]
    rw [e]
    exact ⟨rfl, col1, hD1, Keep.dk hk1 hS1⟩
 ·have hdead := h15
  have hrF : isR l = false := by
    cases hq : isR l with
    | false => rfl
    | true => rw [hq] at h15; exact absurd rfl h15
  refine Ze<|Zf rfl<|Zk<|Zs<|Zs<|Zr<|Zomi rfl rfl<|X.opP X.wN rfl rfl (X.eqI rfl rfl) (fun h20 => ?_) (fun h20 => ?_)
  ·exact absurd h20 hdead
  ·
   refine Ze<|Zf rfl<|Zk<|Zs<|Zs<|Zr<|Zomi rfl rfl<|X.opP X.wN rfl rfl (X.eqI rfl rfl) (fun h26 => ?_) (fun h26 => ?_)
   ·exact absurd h26 hdead
   ·
    refine Ze<|Zf rfl<|Zk<|Zs<|Zr<|Zomi rfl rfl<|Zoai rfl rfl<|Ze<|X.ret1 (v := (.int .i64 _)) Zf13 Zr13 rfl ?_
    have e : s.runW nm l = (70, s) := by rw [DS.runW, if_pos hrF]
    rw [e]
    exact ⟨by rw [hrF]; rfl, col, h.keep hk1, Stp.keep hk1⟩
theorem read_whole {s : DS} {nm : ByteArray} (h : (s.sizeOf nm).2 = 0) : (s.read nm 0 (s.sizeOf nm).1).2 = 0 ∧ ((s.read nm 0 (s.sizeOf nm).1).1.length : Int) = (s.sizeOf nm).1 ∧ 0 ≤ (s.sizeOf nm).1 := by
  rw [DS.sizeOf] at h ⊢
  cases ha : asc nm s.dir with
  | none => rw [ha] at h; exact absurd h (show ¬ (52 : Int) = 0 by decide)
  | some k =>
    rw [DS.read, ha]
    have e : (fat s.fs k).1.length = flen s.fs k := rfl
    simp only [e]
    rw [if_neg Zz]
    refine ⟨rfl, ?_, by omega⟩
    simp only [Int.toNat_zero, List.drop_zero, Int.toNat_natCast]
    rw [List.take_of_length_le (by rw [e]; omega), e]
def DS.whole (s : DS) (nm : ByteArray) : List UInt8 := (s.read nm 0 (s.sizeOf nm).1).1
theorem rOpen_c {col : Nat → Nat} {w : World} {b : Nat} {s : DS} (hD : DkR col w b s) (hok : s.Ok) (nm : ByteArray) (hsz : (s.sizeOf nm).1 ≤ 1000000) (hTb : TabOk w) : Ret Tryz.prog 14 #[ptrV b, .string nm] w fun rv w' => (if (s.sizeOf nm).2 ≠ 0 then rv = .tuple #[.pointer none, .int .i64 (s.sizeOf nm).2] else match idxP (s.whole nm) with
    | none => rv = .tuple #[.pointer none, .int .i64 71]
    | some (l, k) => ∃ r, rv = .tuple #[ptrV r, .int .i64 0] ∧ w.heap.size ≤ r ∧ r < w'.heap.size ∧ RunO w.heap.size w'.heap.size w' r b nm l k) ∧ Keep w w' := by
 refine X.enter Zf14 rfl Tryz.ntmps14 rfl<|Zs<|Zr<|Zoa rfl rfl<|Zoa rfl rfl<|Ze<|Zs<|Zr<|Zom rfl rfl<|Zomg rfl rfl<|Zc (X.callE (sizeR_c hD hok nm) Tryz.call39 rfl rfl) rfl ?_
 rintro _ w1 ⟨rfl, hk1⟩
 have hk1' := hk1.size
 refine Zom rfl rfl<|Zo (X.extr rfl rfl) rfl<|Zo (X.extr rfl rfl) rfl<|Zoai rfl rfl<|Zoai rfl rfl<|Ze<|Zs<|Zs<|Zr<|Zomi rfl rfl<|X.opP X.wN rfl rfl (X.neI rfl rfl) (fun h18 => ?_) (fun h18 => ?_)
 ·have hsz0 := h18
  refine Ze<|Zt rfl<|Zs<|Zr<|Zomi rfl rfl<|Zoa rfl rfl<|Zoai rfl rfl<|Ze<|X.ret2 (v2 := (.int .i64 _)) Zf14 Zr14 rfl rfl ?_
  refine ⟨?_, hk1⟩
  rw [if_pos hsz0]
  rfl
 ·have hsz0 : (s.sizeOf nm).2 = 0 := Classical.byContradiction h18
  obtain ⟨hr1, hr2, hr3⟩ := read_whole hsz0
  refine Ze<|Zf rfl<|Zk<|Zs<|Zr<|Zom rfl rfl<|Zomg rfl rfl<|Zomi rfl rfl<|Zc (X.callE (readR_c (hD.keep hk1) hok nm 0 (s.sizeOf nm).1 ⟨by decide, by decide, by omega, by omega⟩) Tryz.call40 rfl rfl) rfl ?_
  rintro _ w2 ⟨vr, rfl, hMr, hk2⟩
  obtain ⟨Ar, cr, rfl, hcr, hsr⟩ := hMr.slF KB_flat 0 (fun _ _ => Nat.zero_le _)
  have hk2' := hk2.size
  refine Zom rfl rfl<|Zo (X.extr rfl rfl) rfl<|Zo (X.extr rfl rfl) rfl<|Zoas rfl rfl<|Zoai rfl rfl<|Ze<|Zs<|Zs<|Zr<|Zomi rfl rfl<|X.opP X.wN rfl rfl (X.neI rfl rfl) (fun h28 => ?_) (fun h28 => ?_)
  ·exact absurd hr1 h28
  ·refine Ze<|Zf rfl<|Zk<|Zs<|Zr<|Zoms rfl rfl<|Zc (X.callE (index_c (xs := s.whole nm) _ hsr Zz hcr Zz (hTb.keep (hk1.trans hk2))) Tryz.call41 rfl rfl) rfl ?_
   rintro vi w3 ⟨him, hk3⟩
   have hvi : ∃ a1 a2 a3 a4 a5, vi = .tuple #[.slice a1 a2 a3, .int .i64 a4, .int .i64 a5] := by
     revert him
     cases idxP (s.whole nm) with
     | none => rintro rfl; exact ⟨_, _, _, _, _, rfl⟩
     | some p => rintro ⟨v, L, m, S, G, rfl, hN⟩; obtain ⟨A, c, rfl, _⟩ := nrow_lf hN; exact ⟨_, _, _, _, _, rfl⟩
   obtain ⟨a1, a2, a3, a4, a5, rfl⟩ := hvi
   have hk3' := hk3.size
   refine Zom rfl rfl<|Zo (X.extr rfl rfl) rfl<|Zo (X.extr rfl rfl) rfl<|Zo (X.extr rfl rfl) rfl<|Zoa rfl rfl<|Zoai rfl rfl<|Zoai rfl rfl<|Ze<|Zs<|Zs<|Zr<|Zomi rfl rfl<|X.opP X.wN rfl rfl (X.neI rfl rfl) (fun h37 => ?_) (fun h37 => ?_)
   ·
    refine Ze<|Zt rfl<|Zs<|Zr<|Zomi rfl rfl<|Zoa rfl rfl<|Zoai rfl rfl<|Ze<|X.ret2 (v2 := (.int .i64 _)) Zf14 Zr14 rfl rfl ?_
    refine ⟨?_, ((hk1.trans hk2).trans hk3)⟩
    rw [if_neg (fun e => e hsz0)]
    revert him
    cases hx : idxP (s.whole nm) with
    | none => intro e; injection e with e; cases e; rfl
    | some p => rintro ⟨v, L, m, S, G, e, hN⟩; injection e with e; cases e; exact absurd rfl h37
   ·refine Ze<|Zf rfl<|Zk<|Zs<|Zr<|Zom rfl rfl<|Zomg rfl rfl<|Zom rfl rfl<|Zomi rfl rfl<|Zo (X.buildB (vs := [(0, ptrV b), (1, .string nm), (2, .slice a1 a2 a3), (3, .int .i64 a4)]) (cs := #[ptrV b, .string nm, .slice a1 a2 a3, .int .i64 a4]) rfl Zl) rfl<|Zc (X.boxE rfl rfl) rfl ?_
    rintro _ w4 ⟨rfl, hB4, hk4, hz4⟩
    refine Zoa rfl rfl<|Zoa rfl rfl<|Ze<|X.ret2 (v2 := (.int .i64 _)) Zf14 Zr14 rfl rfl ?_
    refine ⟨?_, (((hk1.trans hk2).trans hk3).trans hk4)⟩
    rw [if_neg (fun e => e hsz0)]
    revert him
    cases hx : idxP (s.whole nm) with
    | none => intro e; injection e with e; cases e; exact absurd (Classical.byContradiction h37) (by decide)
    | some p =>
      obtain ⟨l, k⟩ := p
      rintro ⟨v, L, m, S, G, e, hN⟩
      obtain ⟨A, c, rfl, hc, hL⟩ := nrow_lf hN
      injection e with e; cases e
      have hz := (hB4).lt
      have hzz := (hk4).size
      refine ⟨_, rfl, by omega, hz, a1, a3, hB4, hc, ?_⟩
      obtain ⟨L', h1, h2⟩ := hL.keep hk4
      exact ⟨L', h1.wide Zz Zz, Nd.All.mono h2 fun q hq => ⟨by omega, by omega⟩⟩
def RS.runW (nm : ByteArray) (l : List CD) (t : RS) : Int × RS :=
  if isR l = false then (70, t) else if (t.create nm).1 ≠ 0 then t.create nm
  else if ((t.create nm).2.write nm 0 (runB l)).1 ≠ 0 then (t.create nm).2.write nm 0 (runB l)
  else ((t.create nm).2.write nm 0 (runB l)).2.sync nm
theorem Tie.runW {s : DS} {t : RS} (h : Tie s t) (hi : s.Inv) (nm : ByteArray) (l : List CD) : Both (s.runW nm l) (t.runW nm l) := by
  have h1 := h.create hi.ok nm
  have i1 := hi.create nm
  have h2 := h1.2.write i1.ok nm 0 (runB l)
  have i2 := i1.write nm 0 (runB l)
  have h3 := h2.2.sync i2.ok nm
  rw [DS.runW, RS.runW]
  split
  · exact ⟨rfl, h⟩
  · rw [h1.1, h2.1]
    split
    · exact h1
    · split
      · exact h2
      · exact h3
theorem entB_T {q : CD} (h : isT q.1 = true) : entB q = cntB q.1 q.2 := by rw [entB, if_pos h]
theorem ents_back : ∀ {p : List CD}, Oks p → (∀ q, q ∈ p → isT q.1 = true) → ents p.length (p.flatMap entB) = some p
  | [], _, _ => rfl
  | q :: p, h, hT => by
    have h1 := h q List.mem_cons_self
    have h2 := hT q List.mem_cons_self
    rw [List.flatMap_cons, entB_T h2, List.length_cons, ents_b (y := (q, p.flatMap entB)) (pCnt_back h2 h1.2 q.2 h1.1 _), ents_back (fun z hz => h z (List.mem_cons_of_mem _ hz)) (fun z hz => hT z (List.mem_cons_of_mem _ hz))]; rfl
theorem isR_lt {l : List CD} (h : isR l = true) : ∀ (i j : Nat) (p q : CD), i < j → l[i]? = some p → l[j]? = some q → cmpT p.1 q.1 < 0 := by
  have key : ∀ (d i : Nat) (p q : CD), l[i]? = some p → l[i + d + 1]? = some q → cmpT p.1 q.1 < 0 := by
    intro d
    induction d with
    | zero =>
      intro i p q hp hq
      exact (okAt_t hq (isR_at h _)).2.2 Zz p (by rw [show i + 0 + 1 - 1 = i by omega]; exact hp)
    | succ d ih =>
      intro i p q hp hq
      obtain ⟨u, hu⟩ : ∃ u, l[i + d + 1]? = some u := ⟨_, List.getElem?_eq_getElem (by have := (List.getElem?_eq_some_iff.1 hq).1; omega)⟩
      exact cmpT_trans _ _ _ (ih i p u hp hu) ((okAt_t hq (isR_at h _)).2.2 Zz u (by rw [show i + (d + 1) + 1 - 1 = i + d + 1 by omega]; exact hu))
  intro i j p q hij hp hq
  exact key (j - i - 1) i p q hp (by rw [show i + (j - i - 1) + 1 = j by omega]; exact hq)
theorem isR_of {l : List CD} (h1 : ∀ q, q ∈ l → isT q.1 = true ∧ q.2 ≠ 0) (h2 : ∀ (i : Nat) p q, l[i]? = some p → l[i + 1]? = some q → cmpT p.1 q.1 < 0) : isR l = true := by
  refine isR_T fun j hj => ?_
  obtain ⟨q, hq⟩ : ∃ q, l[j]? = some q := ⟨_, List.getElem?_eq_getElem hj⟩
  obtain ⟨a, b⟩ := h1 q (List.mem_of_getElem? hq)
  rcases Nat.eq_zero_or_pos j with h0 | h0
  · exact okAt_T0 hq a b h0
  · obtain ⟨p, hp⟩ : ∃ p, l[j - 1]? = some p := ⟨_, List.getElem?_eq_getElem Zz⟩
    exact okAt_T hq a b hp (h2 (j - 1) p q hp (by rw [show j - 1 + 1 = j by omega]; exact hq))
theorem isR_sub {a p b : List CD} (h : isR (a ++ (p ++ b)) = true) : isR p = true := by
  refine isR_of (fun q hq => isR_T' h q (by simp [hq])) fun i x y hx hy => ?_
  have hl := (List.getElem?_eq_some_iff.1 hy).1
  refine isR_lt h (a.length + i) (a.length + (i + 1)) x y Zz ?_ ?_
  · rw [List.getElem?_append_right Zz, Nat.add_sub_cancel_left, List.getElem?_append_left Zz]; exact hx
  · rw [List.getElem?_append_right Zz, Nat.add_sub_cancel_left, List.getElem?_append_left Zz]; exact hy
theorem flat_split {α : Type} {ps : List (List α)} {j : Nat} {p : List α} (h : ps[j]? = some p) : ps.flatten = (ps.take j).flatten ++ (p ++ (ps.drop (j + 1)).flatten) := by
  obtain ⟨hj, e⟩ := List.getElem?_eq_some_iff.1 h
  have h1 : ps = ps.take j ++ (p :: ps.drop (j + 1)) := by rw [← e, ← List.drop_eq_getElem_cons hj, List.take_append_drop]
  conv => lhs; rw [h1]
  rw [List.flatten_append, List.flatten_cons]
theorem pgs_R {l p : List CD} (h : isR l = true) {j : Nat} (hp : (pgs l)[j]? = some p) : isR p = true := by
  have e := flat_split hp
  rw [pgs_flat] at e
  rw [e] at h
  exact isR_sub h
theorem pgP_back {p : List CD} (h : Oks p) (hr : isR p = true) (hne : p ≠ []) (hl : p.length ≤ 100) : pgP (pageB p) (headT p) = some p := by
  have ho := open_seal (numB p.length ++ p.flatMap entB)
  have hn : pNum 0 0 (openC (pageB p)).2 = some (p.length, p.flatMap entB) := by
    rw [pageB, ho]
    have := pNum_back p.length 0 0 (p.flatMap entB) Zz Zz Zz
    simpa using this
  rw [pg_c (by rw [pageB, ho]) hn, ents_back h (fun q hq => (isR_T' hr q hq).1)]
  exact pgF_T hne hr (cmpT_self _)
def lvs : Nat → List (List CD) → List LEAF
  | _, [] => []
  | a, p :: ps => (a, (pageB p).length, headT p) :: lvs (a + (pageB p).length) ps
theorem lvs_len : ∀ (ps : List (List CD)) (a : Nat), (lvs a ps).length = ps.length
  | [], _ => rfl
  | p :: ps, a => by rw [lvs, List.length_cons, List.length_cons, lvs_len ps]
theorem lvs_at : ∀ {ps : List (List CD)} {a j : Nat} {p : List CD}, ps[j]? = some p → (lvs a ps)[j]? = some (a + ((ps.take j).flatMap pageB).length, (pageB p).length, headT p)
  | [], _, _, _, h => by simp at h
  | q :: ps, a, 0, p, h => by simp at h; subst h; simp [lvs]
  | q :: ps, a, j + 1, p, h => by
    have h' : ps[j]? = some p := by simpa using h
    rw [lvs, List.getElem?_cons_succ, lvs_at h', List.take_succ_cons, List.flatMap_cons, List.length_append, Nat.add_assoc]
theorem parts_back {all : Nat} : ∀ {ps : List (List CD)} {a : Nat} {last : Option (List VAL)}, (∀ p, p ∈ ps → Oks p ∧ isR p = true ∧ p ≠ [] ∧ p.length ≤ 100) → all = a + (ps.flatMap pageB).length → (∀ u, last = some u → ∀ p, ps[0]? = some p → cmpT u (headT p) < 0) → (∀ (i : Nat) p q, ps[i]? = some p → ps[i + 1]? = some q → cmpT (headT p) (headT q) < 0) →
    parts all ps.length a last (ps.flatMap leafB) = some (lvs a ps)
  | [], a, last, _, ha, _, _ => by rw [List.flatMap_nil, List.length_nil, parts, if_pos ⟨rfl, by simpa using ha.symm⟩]; rfl
  | p :: ps, a, last, h, ha, h1, h2 => by
    obtain ⟨ho, hr, hne, hl⟩ := h p List.mem_cons_self
    have hps := pageB_le ho hl
    have hT : ∀ q, q ∈ p → isT q.1 = true := fun q hq => (isR_T' hr q hq).1
    have hk := headT_ok ho hT
    have hb1 : pNum 0 0 ((p :: ps).flatMap leafB) = some ((pageB p).length, textB (keyB (headT p)) ++ ps.flatMap leafB) := by
      rw [List.flatMap_cons, leafB, List.append_assoc]
      have := pNum_back (pageB p).length 0 0 (textB (keyB (headT p)) ++ ps.flatMap leafB) Zz Zz Zz
      simpa using this
    have hb2 : pText 1048576 (textB (keyB (headT p)) ++ ps.flatMap leafB) = some (keyB (headT p), ps.flatMap leafB) := pText_back _ _ _ Zz Zz
    have hhT : isT (headT p) = true ∧ ∀ v, v ∈ headT p → okV v := by
      cases p with
      | nil => exact absurd rfl hne
      | cons q r => exact ⟨hT q List.mem_cons_self, (ho q List.mem_cons_self).2⟩
    have hb3 : pFrom (keyB (headT p)) = some (headT p) := pFrom_back hhT.1 hhT.2
    rw [List.flatMap_cons, List.length_append] at ha
    rw [List.length_cons, parts_5 (z := ((pageB p).length, _)) (y := (keyB (headT p), ps.flatMap leafB)) hb1 hb2 hb3 (by
      rintro (hh | hh)
      · simp only at hh; omega
      · cases last with
        | none => cases hh
        | some u => have := h1 u rfl p rfl; have := of_decide_eq_true hh; omega),
      parts_back (ps := ps) (a := a + (pageB p).length) (fun q hq => h q (List.mem_cons_of_mem _ hq)) (by show all = a + (pageB p).length + _; omega) (fun u hu q hq => by cases hu; exact h2 0 p q rfl (by simpa using hq)) (fun i x y hx hy => h2 (i + 1) x y (by simpa using hx) (by simpa using hy))]
    rfl
theorem head_at {p : List CD} (hne : p ≠ []) : ∃ q, p[0]? = some q ∧ headT p = q.1 := by
  cases p with
  | nil => exact absurd rfl hne
  | cons q r => exact ⟨q, rfl, rfl⟩
theorem pgs_at {l p : List CD} {j i : Nat} {q : CD} (hp : (pgs l)[j]? = some p) (hq : p[i]? = some q) : l[((pgs l).take j).flatten.length + i]? = some q := by
  have e := flat_split hp
  rw [pgs_flat] at e
  have h2 : l[((pgs l).take j).flatten.length + i]? = (((pgs l).take j).flatten ++ (p ++ ((pgs l).drop (j + 1)).flatten))[((pgs l).take j).flatten.length + i]? := congrArg (fun z => z[((pgs l).take j).flatten.length + i]?) e
  rw [h2, List.getElem?_append_right Zz, Nat.add_sub_cancel_left, List.getElem?_append_left (List.getElem?_eq_some_iff.1 hq).1]
  exact hq
theorem take_flat {α : Type} {ps : List (List α)} {j j' : Nat} {p : List α} (h : ps[j]? = some p) (hj : j < j') : (ps.take j).flatten.length + p.length ≤ (ps.take j').flatten.length := by
  have h1 : (ps.take j')[j]? = some p := by rw [List.getElem?_take, if_pos hj]; exact h
  have e := congrArg List.length (flat_split h1)
  rw [List.take_take, Nat.min_eq_left Zz, List.length_append, List.length_append] at e
  omega
theorem heads_lt {l p q : List CD} (hr : isR l = true) {i j : Nat} (hij : i < j) (hp : (pgs l)[i]? = some p) (hq : (pgs l)[j]? = some q) : cmpT (headT p) (headT q) < 0 := by
  obtain ⟨x, hx, ex⟩ := head_at (pgs_ne (List.mem_of_getElem? hp))
  obtain ⟨y, hy, ey⟩ := head_at (pgs_ne (List.mem_of_getElem? hq))
  rw [ex, ey]
  have h1 := take_flat hp hij
  have h2 := (List.getElem?_eq_some_iff.1 hx).1
  exact isR_lt hr _ _ x y Zz (pgs_at hp hx) (pgs_at hq hy)
theorem asc_lvs {l : List CD} (hr : isR l = true) : Asc (lvs 0 (pgs l)) := by
  refine List.pairwise_iff_getElem.2 fun i j hi hj hij => ?_
  rw [lvs_len] at hi hj
  have e1 := lvs_at (a := 0) (List.getElem?_eq_getElem hi)
  have e2 := lvs_at (a := 0) (List.getElem?_eq_getElem hj)
  rw [(List.getElem?_eq_some_iff.1 e1).2, (List.getElem?_eq_some_iff.1 e2).2]
  exact heads_lt hr hij (List.getElem?_eq_getElem hi) (List.getElem?_eq_getElem hj)
theorem le4_low {k : Nat} (h : k < 4294967296) : le4 (low4 k) = k := by
  have e : ∀ a : Nat, (UInt8.ofNat a).toNat = a % 256 := fun a => by rw [UInt8.toNat_ofNat']
  rw [low4, le4]
  simp only [List.getD_cons_zero, List.getD_cons_succ, e]
  omega
theorem idxP_back {l : List CD} (h : Oks l) (hr : isR l = true) (hl : l.length ≤ 100) : idxP (runB l) = some (lvs 0 (pgs l), l.length) := by
  obtain ⟨z1, z2, z3, z4⟩ := run_sizes h hr hl
  have hpl := pgs_len l
  have ht8 : (tailB (idxB (pgs l) l.length).length).length = 8 := by rw [tailB, seal_len]; rfl
  have hlen : (runB l).length = ((pgs l).flatMap pageB).length + (idxB (pgs l) l.length).length + 8 := by rw [runB, List.length_append, List.length_append, ht8]
  have hT : openC ((runB l).drop ((runB l).length - 8)) = (0, low4 (idxB (pgs l) l.length).length) := by
    rw [hlen, Nat.add_sub_cancel, runB, List.drop_append_of_le_length (by rw [List.length_append]; omega), List.drop_of_length_le (by rw [List.length_append]; omega), List.nil_append, tailB, open_seal]
  have hle : le4 (openC ((runB l).drop ((runB l).length - 8))).2 = (idxB (pgs l) l.length).length := by rw [hT]; exact le4_low Zz
  rw [idx_c Zz (by rw [hT]), ]
  generalize hg : (openC ((runB l).drop ((runB l).length - 8))).2 = t at hle ⊢
  have hall : (runB l).length - 8 - le4 t = ((pgs l).flatMap pageB).length := by rw [hlen, hle]; omega
  have hI : openC (((runB l).take ((runB l).length - 8 - le4 t + le4 t)).drop ((runB l).length - 8 - le4 t)) = (0, numB (pgs l).length ++ numB l.length ++ (pgs l).flatMap leafB) := by
    rw [hall, hle, List.drop_take, Nat.add_sub_cancel_left, runB, List.append_assoc, List.drop_left, List.take_left, idxB, open_seal]
  rw [idx_f (by rw [hle]; omega) (by rw [hI]), hI, hall]
  have hn1 : pNum 0 0 (numB (pgs l).length ++ numB l.length ++ (pgs l).flatMap leafB) = some ((pgs l).length, numB l.length ++ (pgs l).flatMap leafB) := by
    rw [List.append_assoc]
    have := pNum_back (pgs l).length 0 0 (numB l.length ++ (pgs l).flatMap leafB) Zz Zz Zz
    simpa using this
  have hn2 : pNum 0 0 (numB l.length ++ (pgs l).flatMap leafB) = some (l.length, (pgs l).flatMap leafB) := by
    have := pNum_back l.length 0 0 ((pgs l).flatMap leafB) Zz Zz Zz
    simpa using this
  rw [idx_j (z := ((pgs l).length, _)) (y := (l.length, _)) hn1 hn2 (by simp only; omega)]
  simp only
  rw [parts_back (a := 0) (last := none) (fun p hp => ?_) Zz (fun u hu => by cases hu) (fun i p q hp hq => heads_lt hr (Nat.lt_succ_self i) hp hq)]
  · rfl
  · obtain ⟨j, hj⟩ := List.getElem?_of_mem hp
    exact ⟨h.sub (pgs_sub hp), pgs_R hr hj, pgs_ne hp, Nat.le_trans (pgs_plen hp) hl⟩
theorem page_at {l p : List CD} {j : Nat} (hp : (pgs l)[j]? = some p) : ((runB l).drop (0 + (((pgs l).take j).flatMap pageB).length)).take (pageB p).length = pageB p := by
  obtain ⟨hj, e⟩ := List.getElem?_eq_some_iff.1 hp
  have h1 : pgs l = (pgs l).take j ++ (p :: (pgs l).drop (j + 1)) := by rw [← e, ← List.drop_eq_getElem_cons hj, List.take_append_drop]
  have h2 : (pgs l).flatMap pageB = ((pgs l).take j).flatMap pageB ++ (pageB p ++ ((pgs l).drop (j + 1)).flatMap pageB) := by conv => lhs; rw [h1]
                                                                                                                              rw [List.flatMap_append, List.flatMap_cons]
  rw [runB, h2, Nat.zero_add]
  simp only [List.append_assoc]
  rw [List.drop_left, List.take_left]
theorem create_ok {s : DS} {nm : ByteArray} (h : (s.create nm).1 = 0) : s.create nm = (0, (({ s with fs := s.fs ++ [([], [])] } : DS).note (⟨#[]⟩, nm, (s.fs.length : Int))).did) ∧ asc nm s.dir = none ∧ nm ≠ ⟨#[]⟩ ∧ s.down = false := by
  rw [DS.create] at h ⊢
  split at h
  · exact absurd h (by simp)
  · rename_i h1; split at h
    · exact absurd h (by simp)
    · rename_i h2; split at h
      · exact absurd h (by simp)
      · rename_i h3; split at h
        · exact absurd h (by simp)
        · rename_i h4
          rw [if_neg h1, if_neg h2, if_neg h3, if_neg h4]
          refine ⟨rfl, ?_, ?_, ?_⟩
          · cases ha : asc nm s.dir with
            | none => rfl
            | some k => rw [ha] at h3; exact absurd rfl h3
          · cases hq : rightN nm with
            | false => exact absurd hq h2
            | true => rw [rightN] at hq; exact (of_decide_eq_true hq).1
          · cases hq : s.down with
            | false => rfl
            | true => exact absurd hq h1
theorem write_ok {s : DS} {nm : ByteArray} {k : Int} {x : List UInt8} (h : (s.write nm 0 x).1 = 0) (ha : asc nm s.dir = some k) : s.write nm 0 x = (0, ({ s with fs := s.fs.set k.toNat (wrt (fat s.fs k).1 0 x, (fat s.fs k).2), ls := markL k 0 (touched 0 x.length) s.ls } : DS).did) := by
  rw [DS.write, ha] at h ⊢
  split at h
  · exact absurd h (by simp)
  · rename_i h1
    simp only at h ⊢
    split at h
    · exact absurd h (by simp)
    · rename_i h2; split at h
      · exact absurd h (by simp)
      · rename_i h3; split at h
        · exact absurd h (by simp)
        · rename_i h4; rw [if_neg h1, if_neg h2, if_neg h3, if_neg h4]; rfl
theorem sync_ok {s : DS} {nm : ByteArray} {k : Int} (h : (s.sync nm).1 = 0) (ha : asc nm s.dir = some k) : s.sync nm = (0, ({ s with fs := s.fs.set k.toNat ((fat s.fs k).1, (fat s.fs k).1), ls := s.ls.filter fun p => decide (p.1.1 ≠ k) } : DS).did) := by
  rw [DS.sync, ha] at h ⊢
  split at h
  · exact absurd h (by simp)
  · rename_i h1; rw [if_neg h1]
theorem markL_keys (k : Int) : ∀ (n s : Nat) (l : LS), (∀ p, p ∈ l → p.1.1 = k) → ∀ p, p ∈ markL k s n l → p.1.1 = k
  | 0, _, _, h => h
  | n + 1, s, l, h => markL_keys k n (s + 1) _ (fun p hp => by
      rcases put_mem hp with h1 | h1
      · rw [h1]
      · exact h p h1)
theorem markL_filter (k : Int) (s n : Nat) : (markL k s n []).filter (fun p => decide (p.1.1 ≠ k)) = [] := List.filter_eq_nil_iff.2 fun p hp => by
  have := markL_keys k n s [] (fun _ h => by cases h) p hp
  simp [this]
theorem wrt_nil (x : List UInt8) : wrt [] 0 x = x := by simp [wrt]
theorem fat_last (fs : List FILE) (f : FILE) : fat (fs ++ [f]) (fs.length : Int) = f := by
  rw [fat, List.getD_eq_getElem?_getD, Int.toNat_natCast, List.getElem?_append_right (Nat.le_refl _), Nat.sub_self]; rfl
theorem fat_set {fs : List FILE} {k : Nat} (f : FILE) (h : k < fs.length) : fat (fs.set k f) (k : Int) = f := by
  rw [fat, List.getD_eq_getElem?_getD, Int.toNat_natCast, List.getElem?_set_self h]; rfl
theorem runW_back {s : DS} {nm : ByteArray} {l : List CD} (h : (s.runW nm l).1 = 0) : isR l = true ∧ (∃ k : Nat, asc nm (s.runW nm l).2.dir = some (k : Int) ∧ fat (s.runW nm l).2.fs (k : Int) = (runB l, runB l)) ∧ (s.ls = [] → (s.runW nm l).2.ls = []) := by
  rw [DS.runW] at h ⊢
  split at h
  · exact absurd h (by simp)
  · rename_i h1
    split at h
    · rename_i h2; exact absurd h h2
    · rename_i h2
      split at h
      · rename_i h3; exact absurd h h3
      · rename_i h3
        rw [if_neg h1, if_neg h2, if_neg h3]
        have hR : isR l = true := by
          cases hq : isR l with
          | true => rfl
          | false => exact absurd hq h1
        obtain ⟨e1, g1, g2, g3⟩ := create_ok (Classical.byContradiction h2)
        have hd : asc nm (s.create nm).2.dir = some (s.fs.length : Int) := by
          rw [e1]
          show asc nm (trn (⟨#[]⟩, nm, (s.fs.length : Int)) s.dir) = _
          rw [trn_eq, if_neg g2, if_pos rfl, asc_put, if_pos rfl]
        have hf : fat (s.create nm).2.fs (s.fs.length : Int) = ([], []) := by rw [e1]; exact fat_last _ _
        have hl : (s.create nm).2.fs.length = s.fs.length + 1 := by rw [e1]; exact List.length_append
        have e2 := write_ok (Classical.byContradiction h3) hd
        rw [hf, wrt_nil] at e2
        have hd2 : asc nm ((s.create nm).2.write nm 0 (runB l)).2.dir = some (s.fs.length : Int) := by rw [e2]; exact hd
        have hf2 : fat ((s.create nm).2.write nm 0 (runB l)).2.fs (s.fs.length : Int) = (runB l, []) := by
          rw [e2]
          show fat ((s.create nm).2.fs.set (s.fs.length : Int).toNat (runB l, [])) _ = _
          rw [Int.toNat_natCast]; exact fat_set _ Zz
        have e3 := sync_ok h hd2
        rw [hf2] at e3
        refine ⟨hR, ⟨s.fs.length, by rw [e3]; exact hd2, ?_⟩, fun hls => ?_⟩
        · rw [e3]
          show fat (((s.create nm).2.write nm 0 (runB l)).2.fs.set (s.fs.length : Int).toNat (runB l, runB l)) _ = _
          rw [Int.toNat_natCast]
          refine fat_set _ ?_
          rw [e2]
          show _ < ((s.create nm).2.fs.set (s.fs.length : Int).toNat (runB l, [])).length
          rw [List.length_set]; omega
        · rw [e3, e2, e1]
          show (markL (s.fs.length : Int) 0 (touched 0 (runB l).length) s.ls).filter _ = []
          rw [hls]
          exact markL_filter _ _ _
theorem file_read {s : DS} {nm : ByteArray} {k : Nat} {x : List UInt8} (h1 : asc nm s.dir = some (k : Int)) (h2 : fat s.fs (k : Int) = (x, x)) : s.sizeOf nm = ((x.length : Int), 0) ∧ s.whole nm = x ∧ ∀ a n : Nat, a + n ≤ x.length → s.read nm (a : Int) (n : Int) = ((x.drop a).take n, 0) := by
  have e0 : s.sizeOf nm = ((x.length : Int), 0) := by
    rw [DS.sizeOf, h1]
    have : flen s.fs (k : Int) = (fat s.fs (k : Int)).1.length := rfl
    simp only [this, h2]
  have e1 : ∀ a n : Nat, a + n ≤ x.length → s.read nm (a : Int) (n : Int) = ((x.drop a).take n, 0) := fun a n han => by
    rw [DS.read, h1]
    simp only [h2]
    rw [if_neg Zz]; simp only [Int.toNat_natCast]
  refine ⟨e0, ?_, e1⟩
  rw [DS.whole, e0]
  have := e1 0 x.length Zz
  rw [show ((0 : Nat) : Int) = 0 from rfl] at this
  simp only [this, List.drop_zero, List.take_length]
theorem take_eq_step {α : Type} {l1 l2 : List α} {i : Nat} {x : α} (h : l1.take i = l2.take i) (h1 : l1[i]? = some x) (h2 : l2[i]? = some x) : l1.take (i + 1) = l2.take (i + 1) := by
  rw [List.take_add_one, List.take_add_one, h, h1, h2]
theorem CD_ext {a b : CD} (h1 : cmpT a.1 b.1 = 0) (h2 : a.2 = b.2) : a = b := Prod.ext ((cmpT_0 _ _).1 h1) h2
theorem RSame_c {lo1 hi1 lo2 hi2 : Nat} {A1 A2 : Option Addr} {n1 n2 c1 c2 : Nat} {l1 l2 : List CD} (w : World) (hs1 : Sl KC lo1 hi1 w A1 n1 l1) (hs2 : Sl KC lo2 hi2 w A2 n2 l2) : Ret Tryz.prog 23 #[.slice A1 n1 c1, .slice A2 n2 c2] w fun r w' => r = .bool (decide (l1 = l2)) ∧ Keep w w' := by
 obtain ⟨L1, hsL1, hLl1, hLt1⟩ := kc_hd hs1
 obtain ⟨L2, hsL2, hLl2, hLt2⟩ := kc_hd hs2
 have hsl1 := hs1.len
 have hsl2 := hs2.len
 have hsb1 := hs1.bound
 refine X.enter Zf23 rfl Tryz.ntmps23 rfl<|Zs<|Zr<|Zoa rfl rfl<|Ze<|Zs<|Zs<|Zr<|Zoms rfl rfl<|Zo (X.lenSl Zu22 rfl) rfl<|Zoms rfl rfl<|Zo (X.lenSl Zu22 rfl) rfl<|X.opP X.wN rfl rfl (X.neI rfl rfl) (fun h10 => ?_) (fun h10 => ?_)
 ·refine Ze<|Zt rfl<|Zs<|Zr<|Zoa rfl rfl<|Ze<|X.ret1 (v := (.bool _)) Zf23 Zr23 rfl ?_
  exact ⟨by rw [decide_eq_false (fun e => by subst e; omega)], (Keep.refl _)⟩
 ·refine Ze<|Zf rfl<|Zk<|Zs<|Zs<|Zr<|Zoa rfl rfl<|Ze<|Zb<|X.loopL (σ := Nat) (fun s => [(0, .slice A1 n1 c1), (1, .slice A2 n2 c2), (5, .int .i64 (s : Int))]) (fun s w' => s ≤ n1 ∧ l1.take s = l2.take s ∧ Keep w w') (fun s => n1 - s) 0 ⟨rfl, rfl, rfl, trivial⟩ ⟨by omega, rfl, (Keep.refl _)⟩ ?_
  rintro i b w1 ⟨hi, hI, hk⟩ hback
  have hk0 := hk.size
  have hn12 : n1 = n2 := by omega
  refine Zs<|Zs<|Zr<|Zomi rfl rfl<|Zoms rfl rfl<|Zo (X.lenSl Zu22 rfl) rfl<|X.opP X.wN rfl rfl (X.lss rfl rfl) (fun h14 => ?_) (fun h14 => ?_)
  ·obtain ⟨x1, hx1⟩ : ∃ x, L1[i]? = some x := ⟨_, List.getElem?_eq_getElem Zz⟩
   obtain ⟨q1, hq1, eq1, oq1, nq1, ht1⟩ := hLt1 _ _ hx1
   obtain ⟨x2, hx2⟩ : ∃ x, L2[i]? = some x := ⟨_, List.getElem?_eq_getElem Zz⟩
   obtain ⟨q2, hq2, eq2, oq2, nq2, ht2⟩ := hLt2 _ _ hx2
   refine Ze<|Zt rfl<|Zk<|Zs<|Zb<|Zs<|X.regionD (fun _ => False) 25 Zl Zl (fun w1 hk1 hz1 => ?_)
   refine ZDc 0 rfl Zl (Zdms rfl)<|ZDc 1 rfl Zl (Zdmi rfl)<|ZD 2 rfl Zl (fun w' hk' => X.idxS (hsL1.keep ((hk.trans hk1).trans hk')) Zu22 Zs40 rfl rfl ⟨by omega, by omega⟩)<|ZDc 3 rfl Zl (X.fldA Zu40 rfl rfl Tryz.sizeOf2)<|ZD 4 rfl Zl (fun w' hk' => X.loadSf (o := 1) Tryz.isAgg2 (hsL1.keep ((hk.trans hk1).trans hk')) hx1 rfl (fun _ h => by rw [h.1]; rfl)) ?_
   refine ZDc 5 rfl Zl (Zdms rfl)<|ZDc 6 rfl Zl (Zdmi rfl)<|ZD 7 rfl Zl (fun w' hk' => X.idxS (hsL2.keep ((hk.trans hk1).trans hk')) Zu22 Zs40 rfl rfl ⟨by omega, by omega⟩)<|ZDc 8 rfl Zl (X.fldA Zu40 rfl rfl Tryz.sizeOf2)<|ZD 9 rfl Zl (fun w' hk' => X.loadSf (o := 1) Tryz.isAgg2 (hsL2.keep ((hk.trans hk1).trans hk')) hx2 rfl (fun _ h => by rw [h.1]; rfl)) ?_
   refine ZDc 10 rfl Zl (X.neI rfl rfl)<|ZDc 11 rfl Zl (Zdmo rfl)<|X.dFork 28 rfl (fun h28 => ?_) (fun h28 => ?_)
   ·have hN := of_decide_eq_true h28
    refine X.dTakeS 12 rfl Zl Zl Zl rfl rfl rfl rfl<|X.dTakeS 13 rfl Zl Zl Zl rfl rfl rfl rfl<|X.dTakeS 14 rfl Zl Zl Zl rfl rfl rfl rfl<|X.dTakeS 15 rfl Zl Zl Zl rfl rfl rfl rfl<|X.dTakeS 16 rfl Zl Zl Zl rfl rfl rfl rfl<|X.dTakeS 17 rfl Zl Zl Zl rfl rfl rfl rfl<|ZS 18 Zl rfl rfl rfl<|ZS 19 Zl rfl rfl rfl<|ZS 20 Zl rfl rfl rfl<|ZS 21 Zl rfl rfl rfl<|ZS 22 Zl rfl rfl rfl<|ZS 23 Zl rfl rfl rfl<|ZDc 24 rfl Zl (ZdTt rfl rfl)<|Zdend Zl<|Zt rfl<|Zs<|Zr<|Zoa rfl rfl<|Ze<|X.ret1 (v := (.bool _)) Zf23 Zr23 rfl ?_
    exact ⟨by rw [decide_eq_false (fun e => by subst e; rw [hq1] at hq2; cases hq2; exact hN (eq1.trans eq2.symm))], (hk.trans hk1)⟩
   ·have hN : q1.2 = q2.2 := by rw [← eq1, ← eq2]; exact Classical.byContradiction (of_decide_eq_false h28)
    refine ZG 12 rfl rfl rfl Zl (fun w' hk' => Zdms rfl)<|ZG 13 rfl rfl rfl Zl (fun w' hk' => Zdmi rfl)<|ZG 14 rfl rfl rfl Zl (fun w' hk' => X.idxS (hsL1.keep ((hk.trans hk1).trans hk')) Zu22 Zs40 rfl rfl ⟨by omega, by omega⟩)<|ZG 15 rfl rfl rfl Zl (fun w' hk' => X.fldA Zu40 rfl rfl Zs38)<|ZG 16 rfl rfl rfl Zl (fun w' hk' => X.loadSf (o := 0) Zi38 (hsL1.keep ((hk.trans hk1).trans hk')) hx1 rfl (fun _ h => by rw [h.1]; rfl)) ?_
    refine ZG 17 rfl rfl rfl Zl (fun w' hk' => Zdms rfl)<|ZG 18 rfl rfl rfl Zl (fun w' hk' => Zdmi rfl)<|ZG 19 rfl rfl rfl Zl (fun w' hk' => X.idxS (hsL2.keep ((hk.trans hk1).trans hk')) Zu22 Zs40 rfl rfl ⟨by omega, by omega⟩)<|ZG 20 rfl rfl rfl Zl (fun w' hk' => X.fldA Zu40 rfl rfl Zs38)<|ZG 21 rfl rfl rfl Zl (fun w' hk' => X.loadSf (o := 0) Zi38 (hsL2.keep ((hk.trans hk1).trans hk')) hx2 rfl (fun _ h => by rw [h.1]; rfl)) ?_
    refine X.dE (i := 22) Zl rfl (X.dwG rfl rfl rfl) (X.callE (R02Compare_c _ (ht1.keep (hk.trans hk1)) (ht2.keep (hk.trans hk1))) Tryz.call17 rfl rfl) (by rintro _ w2 ⟨rfl, hk2⟩ _; exact hk2.mono (fun _ _ h => h.elim)) ?_
    rintro _ w2 ⟨rfl, hk2⟩
    have hk2' := hk2.size
    refine ZG 23 rfl rfl rfl Zl (fun w' hk' => X.neI rfl rfl)<|ZDc 24 rfl Zl (ZdFo rfl rfl)<|Zdend Zl<|X.condB rfl (fun hc41 => ?_) (fun hc41 => ?_)
    ·have hc := of_decide_eq_true hc41
     refine Zs<|Zr<|Zoa rfl rfl<|Ze<|X.ret1 (v := (.bool _)) Zf23 Zr23 rfl ?_
     exact ⟨by rw [decide_eq_false (fun e => by subst e; rw [hq1] at hq2; cases hq2; exact hc (cmpT_self _))], ((hk.trans hk1).trans hk2)⟩
    ·have hc : cmpT q1.1 q2.1 = 0 := Classical.byContradiction (of_decide_eq_false hc41)
     have hqq := CD_ext hc hN
     subst hqq
     refine Zk<|Zi<|Zr<|Zomi rfl rfl<|Zo (X.add rfl rfl (X.w_i64 Zz)) rfl<|Zoai rfl rfl<|Ze ?_
     refine hback (i + 1) _ _ ⟨rfl, rfl, rfl, trivial⟩ ⟨by omega, take_eq_step hI hq1 hq2, ((hk.trans hk1).trans hk2)⟩ Zz
  ·refine Ze<|Zf rfl<|Zx rfl<|Zs<|Zr<|Zoa rfl rfl<|Ze<|X.ret1 (v := (.bool _)) Zf23 Zr23 rfl ?_
   have e : l1 = l2 := by
     have h := hI
     rw [List.take_of_length_le Zz, List.take_of_length_le Zz] at h
     exact h
   exact ⟨by rw [decide_eq_true e], hk⟩
structure OnD (s : DS) (nm : ByteArray) (l : List CD) : Prop where
  sz : s.sizeOf nm = (((runB l).length : Int), 0)
  wh : s.whole nm = runB l
  rd : ∀ a n : Nat, a + n ≤ (runB l).length → s.read nm (a : Int) (n : Int) = (((runB l).drop a).take n, 0)
theorem onD_of {s : DS} {nm : ByteArray} {l : List CD} (h : (s.runW nm l).1 = 0) : OnD (s.runW nm l).2 nm l := by
  obtain ⟨_, ⟨k, h1, h2⟩, _⟩ := runW_back h
  obtain ⟨a, b, c⟩ := file_read h1 h2
  exact ⟨a, b, c⟩
structure Good (l : List CD) : Prop where
  ok : Oks l
  r : isR l = true
  n : l.length ≤ 100
theorem rOpen_run {col : Nat → Nat} {w : World} {b : Nat} {s : DS} {nm : ByteArray} {l : List CD} (hD : DkR col w b s) (hok : s.Ok) (ho : OnD s nm l) (g : Good l) (hTb : TabOk w) : Ret Tryz.prog 14 #[ptrV b, .string nm] w fun rv w' => (∃ r, rv = .tuple #[ptrV r, .int .i64 0] ∧ w.heap.size ≤ r ∧ r < w'.heap.size ∧ RunO w.heap.size w'.heap.size w' r b nm (lvs 0 (pgs l)) l.length) ∧ Keep w w' := by
  have hz := (run_sizes g.ok g.r g.n).2.2.2
  refine (rOpen_c hD hok nm (by rw [ho.sz]; simp only []; omega) hTb).mono fun rv w' ⟨h1, hk⟩ => ⟨?_, hk⟩
  rw [if_neg (by rw [ho.sz]; simp), ho.wh, idxP_back g.ok g.r g.n] at h1
  exact h1
theorem page_end {l p : List CD} {j : Nat} (hp : (pgs l)[j]? = some p) : 0 + (((pgs l).take j).flatMap pageB).length + (pageB p).length ≤ (runB l).length := by
  have h := congrArg List.length (page_at hp)
  rw [List.length_take, List.length_drop] at h
  have h2 : 0 < (pageB p).length := by rw [pageB, seal_len]; omega
  omega
theorem Page_run {lo hi r b : Nat} {col : Nat → Nat} {s : DS} {nm : ByteArray} {l p : List CD} {w : World} {j : Nat} (h : RunO lo hi w r b nm (lvs 0 (pgs l)) l.length) (hhi : hi ≤ w.heap.size) (hD : DkR col w b s) (hok : s.Ok) (ho : OnD s nm l) (g : Good l) (hTb : TabOk w) (hp : (pgs l)[j]? = some p) : Ret Tryz.prog 15 #[ptrV r, .int .i64 (j : Int)] w fun rv w' => (∃ v L m S G, rv = .tuple #[v, .int .i64 0] ∧ NRow NdCt 40 w.heap.size m S G w' v L p) ∧ Keep w w' := by
  have hz := (run_sizes g.ok g.r g.n).2.2.2
  have he := page_end hp
  have hrd := ho.rd _ _ he
  rw [page_at hp] at hrd
  have hpb := pgP_back (g.ok.sub (pgs_sub (List.mem_of_getElem? hp))) (pgs_R g.r hp) (pgs_ne (List.mem_of_getElem? hp)) (Nat.le_trans (pgs_plen (List.mem_of_getElem? hp)) g.n)
  have hb := Page_ok w h hhi hD hok hTb j (lvs_at (a := 0) hp) ⟨by omega, by simp only; omega⟩ (by rw [hrd]) (by rw [hrd]; simp only; omega)
  rw [hrd] at hb
  simp only [hpb] at hb
  exact hb
theorem runW_new {rm : Int} {nm : ByteArray} {l : List CD} (hn : rightN nm = true) (hr : isR l = true) (hl : (runB l).length ≤ 1048576) (hrm : ((secs (runB l).length : Nat) : Int) ≤ rm) : ((DS.mk0 rm [] [] []).runW nm l).1 = 0 := by
  have hne : nm ≠ ⟨#[]⟩ := by rw [rightN] at hn; exact (of_decide_eq_true hn).1
  have hc : (DS.mk0 rm [] [] []).create nm = (0, (((DS.mk0 rm [([], [])] [] []) : DS).note (⟨#[]⟩, nm, 0)).did) := by
    rw [DS.create, if_neg (show ¬ (DS.mk0 rm [] [] []).down = true from Bool.false_ne_true), if_neg (by rw [hn]; decide), if_neg (show ¬ (asc nm (DS.mk0 rm [] [] []).dir).isSome = true from Bool.false_ne_true), if_neg (show ¬ 256 ≤ (DS.mk0 rm [] [] []).dir.length from (by decide : ¬ 256 ≤ 0))]; rfl
  have hd : ((DS.mk0 rm [] [] []).create nm).2.dir = [(nm, 0)] := by
    rw [hc]
    show trn (⟨#[]⟩, nm, 0) [] = _
    rw [trn_eq, if_neg hne, if_pos rfl]; rfl
  have ha : asc nm ((DS.mk0 rm [] [] []).create nm).2.dir = some 0 := by rw [hd]; simp [asc]
  have hf : ((DS.mk0 rm [] [] []).create nm).2.fs = [([], [])] := by rw [hc]; rfl
  have hu : ((DS.mk0 rm [] [] []).create nm).2.used = 0 := by
    rw [DS.used, costs, hd, hf]
    show (cost (flen [([], [])]) [(nm, 0)] nm) + 0 = 0
    rw [cost]; simp [asc, flen]
  have hw : (((DS.mk0 rm [] [] []).create nm).2.write nm 0 (runB l)).1 = 0 := by
    rw [DS.write, if_neg (by rw [hc]; exact Bool.false_ne_true), ha]
    simp only
    rw [hf, if_neg (by show ¬ ((0 : Int) < 0 ∨ ((0 : Nat) : Int) < 0); decide), if_neg Zz, if_neg]
    rw [hu, show ((DS.mk0 rm [] [] []).create nm).2.rm = rm by rw [hc]; rfl]
    show ¬ rm < ((0 : Nat) : Int) + ((secs (max 0 (0 + (runB l).length)) : Nat) : Int) - ((secs 0 : Nat) : Int)
    rw [Nat.zero_add, Nat.zero_max]
    have : secs 0 = 0 := rfl
    omega
  have hdn : (((DS.mk0 rm [] [] []).create nm).2.write nm 0 (runB l)).2.down = false := by
    rw [write_ok hw ha, hc]; rfl
  have hd2 : asc nm (((DS.mk0 rm [] [] []).create nm).2.write nm 0 (runB l)).2.dir = some 0 := by rw [write_ok hw ha]; exact ha
  rw [DS.runW, if_neg (by rw [hr]; decide), if_neg (by rw [hc]; exact fun h => h rfl), if_neg (fun h => h hw), DS.sync, hdn, hd2]
  rfl
def tF : List VAL := [(1, 5, ⟨#[]⟩)]
def qF : CD := (tF, 1)
def lF : List CD := [qF]
def nmR : ByteArray := ⟨#[114]⟩
theorem okF : Oks lF := by
  intro q hq
  rw [lF, List.mem_singleton] at hq
  subst hq
  refine ⟨⟨by decide, by decide⟩, fun v hv => ?_⟩
  rw [qF, tF, List.mem_singleton] at hv
  subst hv
  exact ⟨⟨by decide, by decide⟩, ⟨by decide, by decide⟩, by decide⟩
theorem rF : isR lF = true := by decide
theorem goodF : Good lF := ⟨okF, rF, by decide⟩
theorem pgsF1 : pgs lF = [lF] := by rw [pgs, lF, pgsF, if_neg (fun h => h.1 rfl), List.nil_append, pgsF, if_neg (by simp)]
theorem szF : (runB lF).length ≤ 6400 := by
  have h1 : (pageB lF).length ≤ 14 + lF.length * 2200 := pageB_le okF (by decide)
  have h5 : (keyB (headT lF)).length = 9 := by rfl
  have h6 := numB_le (k := (pageB lF).length) (by rw [show lF.length = 1 from rfl] at h1; omega)
  have h7 := numB_le (k := 9) (by decide)
  have h2 : (leafB lF).length ≤ 29 := by rw [leafB, textB, List.length_append, List.length_append, h5]; omega
  rw [show lF.length = 1 from rfl] at h1
  have h3 := numB_le (k := 1) (by decide)
  have h4 : lF.length = 1 := rfl
  rw [runB, pgsF1, idxB, tailB, List.length_append, List.length_append, seal_len, seal_len, low4_len]
  simp only [List.flatMap_cons, List.flatMap_nil, List.append_nil, List.length_append, List.length_cons, List.length_nil, h4]
  simp only [Nat.zero_add]
  omega
theorem wF : ((DS.mk0 100 [] [] []).runW nmR lF).1 = 0 := runW_new (by decide) rF (by have := szF; omega) (by have := szF; rw [secs]; omega)
theorem fndF : fndN (lvs 0 (pgs lF)) tF = 1 := by
  rw [pgsF1, lvs, lvs, fndN, List.takeWhile_cons]
  have : cmpT (headT lF) tF = 0 := cmpT_self _
  simp [this]
theorem one_kc {lo hi lo' hi' lo0 hi0 : Nat} {w : World} {A A' : Option Addr} {n' c' : Nat} {N : Int} {t : List VAL} (hs : Sl KCt lo hi w A 1 [((A', n', c'), N)]) (ht : Sl KV lo' hi' w A' n' t) (hnc : n' ≤ c') (hN : okI N) (h1 : lo0 ≤ lo) (h2 : hi ≤ hi0) (h3 : lo0 ≤ lo') (h4 : hi' ≤ hi0) : Sl KC lo0 hi0 w A 1 [(t, N)] :=
  hd_kc (hs.wide h1 h2) ⟨rfl, fun i x hx => by
    cases i with
    | zero => cases hx; exact ⟨_, rfl, rfl, hN, hnc, ht.wide h3 h4⟩
    | succ i => simp at hx⟩
theorem five_c (w : World) : Ret Tryz.prog 36 #[] w fun v w' => ∃ A c, v = .agg #[.slice A 1 c, .int .i64 1] ∧ 1 ≤ c ∧ Sl KV w.heap.size w'.heap.size w' A 1 tF ∧ Keep w w' := by
 refine X.enter Tryz.func36 rfl Tryz.ntmps36 rfl<|Zs<|Zr<|Zc (X.allocE Zv40 rfl) rfl ?_
 rintro _ w1 ⟨rfl, hB1, hk1, hz1⟩
 refine Ze<|Zs<|Zr<|Zo (X.buildB (vs := [(0, .int .i64 1), (1, .int .i64 5)]) (cs := #[.int .i64 1, .int .i64 5, .string ⟨#[]⟩]) rfl Zl) rfl<|Zc (X.litKF KV_flat (K := KV) (xs := [Operand.tmp 1]) (vs := [.agg (encV (1, 5, ⟨#[]⟩)).toArray]) (ys := [((1, 5, ⟨#[]⟩) : VAL)]) Zu38 Zs90 Zv90 rfl rfl rfl rfl rfl (litV_ok ⟨⟨by decide, by decide⟩, ⟨by decide, by decide⟩, by decide⟩)) rfl ?_
 rintro _ w2 ⟨rfl, hs2, hB2, hk2, hz2⟩
 refine Zo (X.buildB (vs := [(0, .slice (some ⟨w1.heap.size, 0, none⟩) 1 1), (1, .int .i64 1)]) (cs := #[.slice (some ⟨w1.heap.size, 0, none⟩) 1 1, .int .i64 1]) rfl Zl) rfl<|Zc (X.storeNE Zs40 (hB1.keep hk2) rfl rfl rfl rfl (fun u hu => by simp at hu; rcases hu with rfl | rfl <;> rfl)) rfl ?_
 rintro _ w3 ⟨hB3, hx3, hz3⟩
 refine Ze ?_
 refine X.ret_unw (X.unwR1 Tryz.func36 Tryz.results36 (X.ResOk.cell rfl (X.lvN Zi40 Zs40 hB3 rfl)) ?_)
 have hM : Mine KV 90 (fun q => w.heap.size ≤ q ∧ q ≠ w.heap.size) 0 0 _ (.slice (some ⟨w1.heap.size, 0, none⟩) 1 1) [((1, 5, ⟨#[]⟩) : VAL)] := ((Mine.litV (vs := [.agg (encV (1, 5, ⟨#[]⟩)).toArray]) (w0 := w1) (n := 1) KV_flat hB2 (litV_ok ⟨⟨by decide, by decide⟩, ⟨by decide, by decide⟩, by decide⟩) rfl Zz (by first | (refine ⟨?_, ?_⟩ <;> omega) | (intro q g1; first | exact (g1 : False).elim | (have g1 : q = _ := g1; omega) | (have g1 : _ ≤ q ∧ _ := g1; omega)))).ext hx3 (by first | (intro q g1 g2 g3; first | exact (g3 : False).elim | omega | (have g3 : _ ∨ _ := g3; omega) | (have g3 : q = _ := g3; omega) | (have g3 : _ ≤ q ∧ _ := g3; omega) | (have g3 : _ ≤ q := g3; omega)) | (intro hh; first | exact (hh : False).elim | (have hh : _ ∨ _ := hh; omega) | (have hh : _ = _ := hh; omega) | (have hh : _ ≤ _ ∧ _ := hh; omega) | (have hh : _ ≤ _ := hh; omega)) | (intro q g1; first | exact (g1 : False).elim | (have g1 : _ ∨ _ := g1; omega) | (have g1 : q = _ := g1; omega) | (have g1 : _ ≤ q ∧ _ := g1; omega) | (have g1 : _ ≤ q := g1; omega)) | (intro q g1 g2; first | exact (g2 : False).elim | (have g2 : _ ∨ _ := g2; omega) | (have g2 : q = _ := g2; omega) | (have g2 : _ ≤ q ∧ _ := g2; omega) | (have g2 : _ ≤ q := g2; omega))) (by first | (intro q g1 g2 g3; first | exact (g3 : False).elim | omega | (have g3 : _ ∨ _ := g3; omega) | (have g3 : q = _ := g3; omega) | (have g3 : _ ≤ q ∧ _ := g3; omega) | (have g3 : _ ≤ q := g3; omega)) | (intro hh; first | exact (hh : False).elim | (have hh : _ ∨ _ := hh; omega) | (have hh : _ = _ := hh; omega) | (have hh : _ ≤ _ ∧ _ := hh; omega) | (have hh : _ ≤ _ := hh; omega)) | (intro q g1; first | exact (g1 : False).elim | (have g1 : _ ∨ _ := g1; omega) | (have g1 : q = _ := g1; omega) | (have g1 : _ ≤ q ∧ _ := g1; omega) | (have g1 : _ ≤ q := g1; omega)) | (intro q g1 g2; first | exact (g2 : False).elim | (have g2 : _ ∨ _ := g2; omega) | (have g2 : q = _ := g2; omega) | (have g2 : _ ≤ q ∧ _ := g2; omega) | (have g2 : _ ≤ q := g2; omega))))
 obtain ⟨A, c, e, hc, hs⟩ := hM.slF KV_flat w.heap.size (fun q hq => by have hq : _ ≤ q ∧ _ := hq; omega)
 injection e with e1 e2 e3
 subst e1 e3
 exact ⟨_, _, rfl, Nat.le_refl _, hs, ((hk1.trans hk2).step hx3 (by first | (refine ⟨?_, ?_⟩ <;> omega) | (intro q g1; first | exact (g1 : False).elim | (have g1 : q = _ := g1; omega) | (have g1 : _ ≤ q ∧ _ := g1; omega))))⟩
theorem Bytes_good {lo hi : Nat} {A : Option Addr} {n c : Nat} {l : List CD} (w : World) (hs : Sl KC lo hi w A n l) (hhi : hi ≤ w.heap.size) (hnc : n ≤ c) (g : Good l) (hTb : TabOk w) : Ret Tryz.prog 18 #[.slice A n c] w fun r w' => ∃ v, r = .tuple #[v, .int .i64 0] ∧ FreshB w w' v (runB l) := by
  have h := Bytes_c w hs hhi hnc (by rw [← hs.len]; exact g.n) g.ok hTb
  rw [g.r] at h
  exact h
theorem rWrite_good {col : Nat → Nat} {b : Nat} {s : DS} (nm : ByteArray) {lo hi : Nat} {A : Option Addr} {n c : Nat} {l : List CD} (w : World) (hs : Sl KC lo hi w A n l) (hhi : hi ≤ w.heap.size) (h : DkR col w b s) (hi : s.Inv) (hnm : nm.size ≤ 9223372036854775807) (hsz : s.size ≤ 100000) (hnc : n ≤ c) (g : Good l) (hTb : TabOk w) (h0 : (s.runW nm l).1 = 0) : Ret Tryz.prog 13 #[ptrV b, .string nm, .slice A n c] w fun r w' => r = .int .i64 0 ∧ ∃ col', DkR col' w' b (s.runW nm l).2 ∧ Stp col w col' w' := by
  have := rWrite_c nm w hs hhi h hi hnm hsz hnc (by rw [← hs.len]; exact g.n) g.ok hTb
  rwa [h0] at this
theorem runB_pos (l : List CD) : 0 < (runB l).length := by rw [runB, List.length_append, tailB, seal_len]; omega
theorem ralive_c (w : World) (hTb : TabOk w) : Ret Tryz.prog 11 #[] w fun r w' => r = .bool true ∧ Keep w w' := by
 have htl := hTb.lt
 refine X.enter Tryz.func11 rfl Tryz.ntmps11 rfl<|Zs<|Zr<|Zoa rfl rfl<|Ze<|Zs<|Zr<|Zc (X.callE (New_ok 100 _ (by decide)) Tryz.call12 rfl rfl) rfl ?_
 rintro _ w1 ⟨bd, bf, bdd, bx, bl, c0, rfl, hDk, hDc, hk1⟩
 have hD0 := hDk.r
 have hzn := hk1.size
 have htab : c0 0 = 0 := Classical.byContradiction fun e => by have := hDc _ e; omega
 refine Zom rfl rfl<|Zo (X.extr rfl rfl) rfl<|Zo (X.extr rfl rfl) rfl<|Zoa rfl rfl<|Zoai rfl rfl<|Ze<|Zs<|Zs<|Zr<|Zomi rfl rfl<|Zo (X.neI rfl rfl) rfl<|Zomf rfl rfl<|Zg (X.move rfl) rfl rfl rfl rfl<|Zg (X.eqPtrN (A := some _) Zu26 rfl rfl) rfl rfl rfl rfl<|Zo (ZdFf rfl rfl) rfl<|Ze<|Zf rfl<|Zk<|Zs<|Zr<|Zc (X.callE (five_c _) Zc36 rfl rfl) rfl ?_
 rintro _ w2 ⟨Af1, cf1, rfl, hcf1, hsf1, hk2⟩
 have hk2' := hk2.size
 refine Zc (X.litKF KCt_flat (K := KCt) (xs := [Operand.tmp 23]) (vs := [evC ((Af1, 1, cf1), 1)]) (ys := [((Af1, 1, cf1), 1)]) Zu22 Zs40 Zv40 rfl rfl rfl rfl rfl (repsC _)) rfl ?_
 rintro _ w3 ⟨rfl, hs3, hB3, hk3, hz3⟩
 refine Zc (X.callE (Bytes_good _ (sl_cast (one_kc (lo0 := 0) (hi0 := w3.heap.size) hs3 (hsf1.keep hk3) hcf1 ⟨by decide, by decide⟩ (Nat.zero_le _) Zz (Nat.zero_le _) Zz) (show [(tF, 1)] = lF from rfl)) (Nat.le_refl _) (Nat.le_refl _) goodF (hTb.keep ((hk1.trans hk2).trans hk3))) Tryz.call18 rfl rfl) rfl ?_
 rintro _ w4 ⟨vB, rfl, hMB, hk4⟩
 have hk4' := hk4.size
 refine Zom rfl rfl<|Zo (X.extr rfl rfl) rfl<|Zo (X.extr rfl rfl) rfl<|Zoa rfl rfl<|Zoai rfl rfl<|Ze<|Zs<|Zr<|Zom rfl rfl<|Zc (X.callE (five_c _) Zc36 rfl rfl) rfl ?_
 rintro _ w5 ⟨Af2, cf2, rfl, hcf2, hsf2, hk5⟩
 have hk5' := hk5.size
 refine Zc (X.litKF KCt_flat (K := KCt) (xs := [Operand.tmp 29]) (vs := [evC ((Af2, 1, cf2), 1)]) (ys := [((Af2, 1, cf2), 1)]) Zu22 Zs40 Zv40 rfl rfl rfl rfl rfl (repsC _)) rfl ?_
 rintro _ w6 ⟨rfl, hs6, hB6, hk6, hz6⟩
 refine Zc (X.callE (rWrite_good nmR _ (sl_cast (one_kc (lo0 := 0) (hi0 := w6.heap.size) hs6 (hsf2.keep hk6) hcf2 ⟨by decide, by decide⟩ (Nat.zero_le _) Zz (Nat.zero_le _) Zz) (show [(tF, 1)] = lF from rfl)) (Nat.le_refl _) (((((hD0.keep hk2).keep hk3).keep hk4).keep hk5).keep hk6) (Inv_new (by decide)) (by decide) (by decide) (Nat.le_refl _) goodF (hTb.keep (((((hk1.trans hk2).trans hk3).trans hk4).trans hk5).trans hk6)) wF) Tryz.call13 rfl rfl) rfl ?_
 rintro _ w7 ⟨rfl, c1, hD1, hS1⟩
 have hx7 := hS1.2
 have hx7' := hx7.size
 refine Zoai rfl rfl<|Ze<|Zs<|Zr<|Zom rfl rfl<|Zc (X.callE (rOpen_run hD1 ((Inv_new (by decide)).runW nmR lF).ok (onD_of wF) goodF ((hTb.keep (((((hk1.trans hk2).trans hk3).trans hk4).trans hk5).trans hk6)).ext hx7 zq10)) Tryz.call14 rfl rfl) rfl ?_
 rintro _ w8 ⟨⟨r, rfl, hr1, hr2, hRO⟩, hk8⟩
 have hk8' := hk8.size
 refine Zom rfl rfl<|Zo (X.extr rfl rfl) rfl<|Zo (X.extr rfl rfl) rfl<|Zoa rfl rfl<|Zoai rfl rfl<|Ze<|Zs<|Zs<|Zr<|Zomi rfl rfl<|Zo (X.neI rfl rfl) rfl<|Zomf rfl rfl<|Zg (Zdmi rfl) rfl rfl rfl rfl<|Zg (X.neI rfl rfl) rfl rfl rfl rfl<|Zo (ZdFf rfl rfl) rfl<|Zomf rfl rfl<|Zg (Zdmi rfl) rfl rfl rfl rfl<|Zg (X.neI rfl rfl) rfl rfl rfl rfl<|Zo (ZdFf rfl rfl) rfl<|Zomf rfl rfl<|Zg (X.move rfl) rfl rfl rfl rfl<|Zg (X.eqPtrN (A := some _) Zu31 rfl rfl) rfl rfl rfl rfl<|Zo (ZdFf rfl rfl) rfl<|Zomf rfl rfl<|Zg (X.move rfl) rfl rfl rfl rfl ?_
 have q9 := (((hMB.keep (hk5.trans hk6)).ext hx7 zq10 zq10).keep hk8).slF KB_flat 0 (fun _ _ => Nat.zero_le _)
 obtain ⟨A9, c9, rfl, hc9, hs9⟩ := q9
 refine Zg (X.lenSl Zu43 rfl) rfl rfl rfl rfl<|X.opP (X.wG rfl rfl rfl) rfl rfl (X.eqI rfl rfl) (fun h54 => ?_) (fun h54 => ?_)
 ·have := runB_pos lF; omega
 ·refine Zo (ZdFf rfl rfl) rfl<|Ze<|Zf rfl<|Zk<|Zs<|Zr<|Zom rfl rfl<|Zc (X.callE (Len_c _ hRO) Tryz.call25 rfl rfl) rfl ?_
  rintro _ w10 ⟨rfl, hk10⟩
  have hk10' := hk10.size
  refine Zom rfl rfl<|Zo (X.extr rfl rfl) rfl<|Zo (X.extr rfl rfl) rfl<|Zoai rfl rfl<|Zoai rfl rfl<|Ze<|Zs<|Zr<|Zom rfl rfl<|Zc (X.callE (Page_run (j := 0) (p := lF) (hRO.keep hk10) Zz ((hD1.keep hk8).keep hk10) ((Inv_new (by decide)).runW nmR lF).ok (onD_of wF) goodF (((hTb.keep (((((hk1.trans hk2).trans hk3).trans hk4).trans hk5).trans hk6)).ext hx7 zq10).keep (hk8.trans hk10)) (by rw [pgsF1]; rfl)) Tryz.call15 rfl rfl) rfl ?_
  rintro _ w11 ⟨⟨vp, Lp, mp, Sp, Gp, rfl, hNp⟩, hk11⟩
  obtain ⟨Ap, cp, rfl, hcp, hsp⟩ := nrow_kc hNp
  have hk11' := hk11.size
  refine Zom rfl rfl<|Zo (X.extr rfl rfl) rfl<|Zo (X.extr rfl rfl) rfl<|Zoas rfl rfl<|Zoai rfl rfl<|Ze<|Zs<|Zr<|Zomi rfl rfl<|X.opP X.wN rfl rfl (X.eqI rfl rfl) (fun h67 => ?_) (fun h67 => ?_)
  ·refine Zomt rfl rfl<|Zg (Zdmi rfl) rfl rfl rfl rfl<|X.opP (X.wG rfl rfl rfl) rfl rfl (X.eqI rfl rfl) (fun h70 => ?_) (fun h70 => ?_)
   ·refine Zo (ZdTt rfl rfl) rfl<|Zomt rfl rfl<|Zg (Zdmi rfl) rfl rfl rfl rfl<|X.opP (X.wG rfl rfl rfl) rfl rfl (X.eqI rfl rfl) (fun h74 => ?_) (fun h74 => ?_)
    ·refine Zo (ZdTt rfl rfl) rfl<|Zomt rfl rfl<|Zg (Zdms rfl) rfl rfl rfl rfl<|X.opE (X.wG rfl rfl rfl) rfl (X.callE (five_c _) Zc36 rfl rfl) ?_
     rintro _ w12 ⟨Af3, cf3, rfl, hcf3, hsf3, hk12⟩
     have hk12' := hk12.size
     refine X.opE (X.wG rfl rfl rfl) rfl (X.litKF KCt_flat (K := KCt) (xs := [Operand.tmp 78]) (vs := [evC ((Af3, 1, cf3), 1)]) (ys := [((Af3, 1, cf3), 1)]) Zu22 Zs40 Zv40 rfl rfl rfl rfl rfl (repsC _)) ?_
     rintro _ w13 ⟨rfl, hs13, hB13, hk13, hz13⟩
     refine X.opE (X.wG rfl rfl rfl) rfl (X.callE (RSame_c _ (hsp.keep (hk12.trans hk13)) (sl_cast (one_kc (lo0 := 0) (hi0 := w13.heap.size) hs13 (hsf3.keep hk13) hcf3 ⟨by decide, by decide⟩ (Nat.zero_le _) Zz (Nat.zero_le _) Zz) (show [(tF, 1)] = lF from rfl))) Tryz.call23 rfl rfl) ?_
     rintro _ w14 ⟨rfl, hk14⟩
     have hk14' := hk14.size
     refine Zo (ZdTo rfl rfl) rfl<|Zomo rfl rfl<|X.forkO 82 rfl (fun h82 => ?_) (fun h82 => ?_)
     ·refine Zg (X.move rfl) rfl rfl rfl rfl<|X.opE (X.wG rfl rfl rfl) rfl (X.callE (five_c _) Zc36 rfl rfl) ?_
      rintro _ w15 ⟨Af4, cf4, rfl, hcf4, hsf4, hk15⟩
      have hk15' := hk15.size
      refine Zg (X.fld1 Zu40 rfl rfl Zi38 rfl) rfl rfl rfl rfl<|X.opE (X.wG rfl rfl rfl) rfl (X.callE (RuFind_c _ ((((((hRO.keep hk10).keep hk11).keep hk12).keep hk13).keep hk14).keep hk15) (by rw [lvs_len, pgsF1]; decide) (asc_lvs rF) hsf4) Tryz.call16 rfl rfl) ?_
      rintro _ w16 ⟨rfl, hk16⟩
      have hk16' := hk16.size
      refine Zg (X.eqI rfl rfl) rfl rfl rfl rfl<|Zo (ZdTo rfl rfl) rfl<|Zoao rfl rfl<|Ze<|X.ret1 (v := (.bool _)) Tryz.func11 Tryz.results11 rfl ?_
      exact ⟨by first | rfl | exact congrArg Value.bool (decide_eq_true (by rw [fndF]; rfl)), ((((((((((((((hk1.trans hk2).trans hk3).trans hk4).trans hk5).trans hk6).step hx7 (by intro q g1; exact Classical.byContradiction fun e => g1 (Classical.byContradiction fun e2 => by have := hDc q e2; omega))).trans hk8).trans hk10).trans hk11).trans hk12).trans hk13).trans hk14).trans hk15).trans hk16)⟩
     ·exact absurd (h82 ▸ decide_eq_true (rfl : lF = lF)) Bool.false_ne_true
    ·exact absurd rfl h74
   ·exact absurd (by rw [lvs_len, pgsF1]; rfl) h70
  ·exact absurd rfl h67
def fewV (v : VAL) : VAL := if 300 < v.2.2.size then (v.1, v.2.1, v.2.2.extract 0 300) else v
def fewT (t : List VAL) : List VAL := (t.take 9).map fewV
def fewC (q : CD) : CD := (fewT q.1, q.2)
def fewL (l : List CD) : List CD := (l.take 60).map fewC
theorem fewV_ok {v : VAL} (h : okV v) : okV (fewV v) := by
  unfold fewV
  split
  · exact ⟨h.1, h.2.1, by rw [ByteArray.size_extract]; have := h.2.2; omega⟩
  · exact h
theorem few_step {α β : Type} {l : List α} {i : Nat} {x : α} (f : α → β) (hx : l[i]? = some x) : (l.take (i + 1)).map f = (l.take i).map f ++ [f x] := by
  rw [List.take_add_one, hx]; simp
theorem few_take {l : List VAL} {n : Nat} (h : l.length = n) : (l.take (min n 9)).map fewV = fewT l := by
  rw [fewT]
  rcases Nat.lt_or_ge n 9 with h9 | h9
  · rw [Nat.min_eq_left Zz, List.take_of_length_le Zz, List.take_of_length_le Zz]
  · rw [Nat.min_eq_right h9]
theorem okV_get {lo hi : Nat} {w : World} {A : Option Addr} {n i : Nat} {l : List VAL} {v : VAL} (h : Sl KV lo hi w A n l) (hv : l[i]? = some v) : okV v := KV_ok h i v hv
theorem few_c {lo hi : Nat} {A : Option Addr} {n c : Nat} {l : List CD} (w : World) (hs : Sl KC lo hi w A n l) (hhi : hi ≤ w.heap.size) (hnc : n ≤ c) : Ret Tryz.prog 9 #[.slice A n c] w fun r w' => ∃ v L m S G, r = v ∧ NRow NdCt 40 w.heap.size m S G w' v L (fewL l) ∧ Keep w w' := by
 obtain ⟨L, hsL, hLl, hLt⟩ := kc_hd hs
 have hsl := hs.len
 have hsb := hs.bound
 refine X.enter Zf9 rfl Tryz.ntmps9 rfl<|Zs<|Zr<|Zoa rfl rfl<|Ze<|Zs<|Zr<|Zoa rfl rfl<|Ze<|Zs<|Zs<|Zr<|Zoa rfl rfl<|Ze<|Zb<|X.loopL (σ := Nat × Value) (fun s => [(0, .slice A n c), (3, s.2), (4, .int .i64 (s.1 : Int))]) (fun s w' => s.1 ≤ n ∧ s.1 ≤ 60 ∧ Keep w w' ∧ ∃ L' m S G, NRow NdCt 40 w.heap.size m S G w' s.2 L' ((l.take s.1).map fewC)) (fun s => n - s.1) (0, .slice none 0 0) ⟨rfl, rfl, rfl, trivial⟩ ⟨Nat.zero_le _, Nat.zero_le _, (Keep.refl _), [], _, _, _, NRow.nil _ _ _ _ (Nat.le_refl _)⟩ ?_
 rintro ⟨i, v⟩ b wo ⟨hi1, hi2, hk, L', mr, SS, GG, hNR⟩ hbo
 dsimp only
 dsimp only at hi1 hi2 hNR
 have hk0 := hk.size
 have hl1 := hNR.l1
 have hbb := hNR.b
 refine Zs<|Zs<|Zr<|Zomi rfl rfl<|Zom rfl rfl<|Zo (X.lenSl Zu22 rfl) rfl<|X.opP X.wN rfl rfl (X.lss rfl rfl) (fun h12 => ?_) (fun h12 => ?_)
 ·obtain ⟨x, hx⟩ : ∃ x, L[i]? = some x := ⟨_, List.getElem?_eq_getElem Zz⟩
  obtain ⟨q, hq, eq, oq, nq, ht⟩ := hLt _ _ hx
  have htl := ht.len
  have htb := ht.bound
  refine Zomt rfl rfl<|Zg (Zdmi rfl) rfl rfl rfl rfl<|X.opP (X.wG rfl rfl rfl) rfl rfl (X.lss rfl rfl) (fun h15 => ?_) (fun h15 => ?_)
  ·refine Zo (ZdTt rfl rfl) rfl<|Ze<|Zt rfl<|Zk<|Zs<|Zb<|Zs<|Zr<|Zom rfl rfl<|Zomi rfl rfl<|Zo (X.idxS (hsL.keep hk) Zu22 Zs40 rfl rfl ⟨by omega, by omega⟩) rfl<|Zo (X.loadSN Zi40 Zs40 (hsL.keep hk) hx rfl (fun _ h => h.1) rfl) rfl<|Zc (X.allocE Zv40 rfl) rfl ?_
   rintro _ w1 ⟨rfl, hB1, hk1, hz1⟩
   refine Zc (X.storeNE Zs40 hB1 rfl rfl rfl rfl (fun u hu => by simp at hu; rcases hu with rfl | rfl <;> rfl)) rfl ?_
   rintro _ w2 ⟨hB2, hx2, hz2⟩
   refine Ze<|Zs ?_
   have hkJ := (((Keep.refl _).trans hk1).step hx2 zq29)
   refine X.joinW (σ := Nat) (fun s => [(0, .slice A n c), (3, v), (4, .int .i64 (i : Int)), (5, .pointer (some ⟨wo.heap.size, 0, none⟩))]) (fun s w' => s = min x.1.2.1 9 ∧ Blk w' wo.heap.size [.slice x.1.1 s x.1.2.2, .int .i64 x.2] 40 ∧ Ext (fun q => q = wo.heap.size) w2 w') (fun hjoin => ?_) ?_
   ·refine Zs<|Zr<|Zo (X.fldB (j := 0) Zu40 rfl rfl Zs38 rfl) rfl<|Zo (X.load1B Zi38 hB2 rfl rfl) rfl<|Zo (X.lenSl Zu38 rfl) rfl<|X.opP X.wN rfl rfl (X.gtr rfl rfl) (fun h26 => ?_) (fun h26 => ?_)
    ·refine Ze<|Zt rfl<|Zr<|Zo (X.fldB (j := 0) Zu40 rfl rfl Zs38 rfl) rfl<|Zo (X.load1B Zi38 hB2 rfl rfl) rfl<|Zo (X.cutHr Zu38 Zs90 rfl rfl Zz) rfl<|Zo (X.fldB (j := 0) Zu40 rfl rfl Zs38 rfl) rfl<|Zc (X.storeE Zs38 hB2 rfl rfl rfl rfl) rfl ?_
     rintro _ w3 ⟨hB3, hx3, hz3⟩
     refine Ze ?_
     refine hjoin 9 _ _ ⟨rfl, rfl, rfl, rfl, trivial⟩ ⟨by omega, hB3, (hx3.mono (fun k _ hk => by have hk : k = _ := hk; exact hk))⟩
    ·refine Ze<|Zf rfl<|Zk ?_
     refine hjoin x.1.2.1 _ _ ⟨rfl, rfl, rfl, rfl, trivial⟩ ⟨by omega, hB2, Ext.refl _ _⟩
   rintro nn bj wj ⟨hnn, hB5, hj⟩
   have hj' := hj.size
   refine Zs<|Zr<|Zc (X.lit0E (K := KV) (S := fun k => wj.heap.size ≤ k) Zu38 Zs90 (Nat.le_refl _)) rfl ?_
   rintro v4 w4 ⟨hM4, hk4, hz4⟩
   refine Zoa rfl rfl<|Ze<|Zs<|Zs<|Zr<|Zoa rfl rfl<|Ze<|Zb ?_
   have hkI := (hkJ.step hj (by intro q g1; have g1 : q = _ := g1; omega))
   have htI := ((ht.keep hk).keep hkI).take nn Zz
   refine X.loopL (σ := Nat × Value) (fun s => [(0, .slice A n c), (3, v), (4, .int .i64 (i : Int)), (5, .pointer (some ⟨wo.heap.size, 0, none⟩)), (6, s.2), (7, .int .i64 (s.1 : Int))]) (fun s w' => s.1 ≤ nn ∧ Mine KV 90 (fun k => wj.heap.size ≤ k) 0 0 w' s.2 ((q.1.take s.1).map fewV) ∧ Keep wj w') (fun s => nn - s.1) (0, v4) ⟨rfl, rfl, rfl, rfl, rfl, rfl, trivial⟩ ⟨Nat.zero_le _, hM4, hk4⟩ ?_
   rintro ⟨j, vt⟩ b2 wl ⟨hjn, hMt, hkL⟩ hbi
   dsimp only
   dsimp only at hjn hMt
   have hkL0 := hkL.size
   refine Zs<|Zs<|Zr<|Zomi rfl rfl<|Zo (X.fldB (j := 0) Zu40 rfl rfl Zs38 rfl) rfl<|Zo (X.load1B Zi38 (hB5.keep hkL) rfl rfl) rfl<|Zo (X.lenSl Zu38 rfl) rfl<|X.opP X.wN rfl rfl (X.lss rfl rfl) (fun h36 => ?_) (fun h36 => ?_)
   ·obtain ⟨vv, hvv⟩ : ∃ vv, (q.1.take nn)[j]? = some vv := ⟨_, List.getElem?_eq_getElem (by rw [List.length_take]; omega)⟩
    have hov := okV_get htI hvv
    have hvq : q.1[j]? = some vv := by rw [List.getElem?_take, if_pos Zz] at hvv; exact hvv
    have hfo := fewV_ok hov
    have hst := few_step fewV hvq
    refine Ze<|Zt rfl<|Zk<|Zs<|Zb<|Zs<|Zr<|Zo (X.fldB (j := 0) Zu40 rfl rfl Zs38 rfl) rfl<|Zo (X.load1B Zi38 (hB5.keep hkL) rfl rfl) rfl<|Zomi rfl rfl<|Zo (X.idxS (htI.keep hkL) Zu38 Zs90 rfl rfl ⟨by omega, by omega⟩) rfl<|Zo (X.loadSN Zi90 Zs90 (htI.keep hkL) hvv rfl (fun _ h => h.1) rfl) rfl<|Zc (X.allocE Zv90 rfl) rfl ?_
    rintro _ w5 ⟨rfl, hB5, hk5, hz5⟩
    refine Zc (X.storeNE Zs90 hB5 rfl rfl rfl rfl (encV_one _)) rfl ?_
    rintro _ w6 ⟨hB6, hx6, hz6⟩
    refine Ze<|Zs<|Zs<|Zr<|Zo (X.fldB (j := 2) Zu90 rfl rfl Zs9 rfl) rfl<|Zo (X.load1B Zi9 hB6 rfl rfl) rfl<|Zo (X.lenS Zu9 rfl) rfl<|X.opP X.wN rfl rfl (X.gtr rfl rfl) (fun h47 => ?_) (fun h47 => ?_)
    ·have hfv : fewV vv = (vv.1, vv.2.1, vv.2.2.extract 0 300) := by rw [fewV, if_pos Zz]
     rw [hfv] at hfo hst
     refine Ze<|Zt rfl<|Zr<|Zo (X.fldB (j := 2) Zu90 rfl rfl Zs9 rfl) rfl<|Zo (X.load1B Zi9 hB6 rfl rfl) rfl<|Zo (X.cutSH Zu9 rfl rfl ⟨by omega, by omega⟩) rfl<|Zo (X.fldB (j := 2) Zu90 rfl rfl Zs9 rfl) rfl<|Zc (X.storeE Zs9 hB6 rfl rfl rfl rfl) rfl ?_
     rintro _ w7 ⟨hB7, hx7, hz7⟩
     refine Ze<|Zr<|Zom rfl rfl<|Zo (X.loadNB Zi90 Zs90 hB7 rfl rfl rfl) rfl<|Zc (X.litKF KV_flat (K := KV) (xs := [Operand.tmp 53]) (vs := [.agg (encV (vv.1, vv.2.1, vv.2.2.extract 0 300)).toArray]) (ys := [(vv.1, vv.2.1, vv.2.2.extract 0 300)]) Zu38 Zs90 Zv90 rfl rfl rfl rfl rfl (litV_ok hfo)) rfl ?_
     rintro _ w8 ⟨rfl, hs8, hB8, hk8, hz8⟩
     refine Zc (X.appE (K := KV) (S := fun k => wj.heap.size ≤ k) KV_flat Zu38 EVal rfl rfl (hMt.keep (((hk5.step hx6 zq34).step hx7 zq34).trans hk8)) hs8 zq15 zq34) rfl ?_
     rintro v9 w9 ⟨hM9, hx9⟩
     have hx9' := hx9.size
     refine Zoa rfl rfl<|Ze<|Zi<|Zr<|Zomi rfl rfl<|Zo (X.add rfl rfl (X.w_i64 Zz)) rfl<|Zoai rfl rfl<|Ze ?_
     refine hbi (j + 1, v9) _ _ ⟨rfl, rfl, rfl, rfl, rfl, rfl, trivial⟩ ⟨by omega, by rw [hst]; exact hM9, (((((hkL.trans hk5).step hx6 zq29).step hx7 zq29).trans hk8).step hx9 zq29)⟩ (by (try dsimp only); omega)
    ·have hfv : fewV vv = vv := by rw [fewV, if_neg Zz]
     rw [hfv] at hfo hst
     refine Ze<|Zf rfl<|Zk<|Zr<|Zom rfl rfl<|Zo (X.loadNB Zi90 Zs90 hB6 rfl rfl rfl) rfl<|Zc (X.litKF KV_flat (K := KV) (xs := [Operand.tmp 53]) (vs := [.agg (encV vv).toArray]) (ys := [vv]) Zu38 Zs90 Zv90 rfl rfl rfl rfl rfl (litV_ok hfo)) rfl ?_
     rintro _ w10 ⟨rfl, hs10, hB10, hk10, hz10⟩
     refine Zc (X.appE (K := KV) (S := fun k => wj.heap.size ≤ k) KV_flat Zu38 EVal rfl rfl (hMt.keep ((hk5.step hx6 zq34).trans hk10)) hs10 zq15 zq34) rfl ?_
     rintro v11 w11 ⟨hM11, hx11⟩
     have hx11' := hx11.size
     refine Zoa rfl rfl<|Ze<|Zi<|Zr<|Zomi rfl rfl<|Zo (X.add rfl rfl (X.w_i64 Zz)) rfl<|Zoai rfl rfl<|Ze ?_
     refine hbi (j + 1, v11) _ _ ⟨rfl, rfl, rfl, rfl, rfl, rfl, trivial⟩ ⟨by omega, by rw [hst]; exact hM11, ((((hkL.trans hk5).step hx6 zq29).trans hk10).step hx11 zq29)⟩ (by (try dsimp only); omega)
   ·have hjn' : j = nn := by omega
    rw [hjn', hnn, few_take (ht.len.trans rfl)] at hMt
    obtain ⟨Aq, cq, rfl, hcq, hsq⟩ := hMt.slF KV_flat wj.heap.size (fun k h => h)
    refine Ze<|Zf rfl<|Zx rfl<|Zs<|Zr<|Zoms rfl rfl<|Zo (X.fldB (j := 0) Zu40 rfl rfl Zs38 rfl) rfl<|Zc (X.storeE Zs38 (hB5.keep hkL) rfl rfl rfl rfl) rfl ?_
    rintro _ w12 ⟨hB12, hx12, hz12⟩
    refine Ze<|Zr<|Zom rfl rfl<|Zo (X.loadNB Zi40 Zs40 hB12 rfl rfl rfl) rfl<|Zc (X.litKF KCt_flat (K := KCt) (xs := [Operand.tmp 59]) (vs := [evC ((Aq, (fewT q.1).length, cq), x.2)]) (ys := [((Aq, (fewT q.1).length, cq), x.2)]) Zu22 Zs40 Zv40 rfl rfl rfl rfl rfl (repsC _)) rfl ?_
    rintro _ w13 ⟨rfl, hs13, hB13, hk13, hz13⟩
    refine Zc (NRow.app (y := ((Aq, (fewT q.1).length, cq), x.2)) (q := fewC q) (hNR.keep (((hkI.trans hkL).step hx12 zq29).trans hk13)) hs13 ⟨eq, oq, hcq, _, _, fun _ h1 h2 => ⟨h1, h2⟩, ((hsq.ext hx12 zq36).keep hk13)⟩ (lo' := wj.heap.size) Zz Zz (Nat.le_of_lt_succ Zz) Zu22 ECt rfl rfl (by rw [List.length_map, List.length_take]; omega)) rfl ?_
    rintro _ w14 ⟨Ar, cr, S', G', rfl, hNn, hx14⟩
    have hx14' := hx14.size
    refine Zoa rfl rfl<|Ze<|Zi<|Zr<|Zomi rfl rfl<|Zo (X.add rfl rfl (X.w_i64 Zz)) rfl<|Zoai rfl rfl<|Ze ?_
    refine hbo (i + 1, .slice Ar ((l.take i).map fewC ++ [fewC q]).length cr) _ _ ⟨rfl, rfl, rfl, trivial⟩ ⟨by omega, by omega, ((hk.trans (((hkI.trans hkL).step hx12 zq29).trans hk13)).step hx14 (fun k h => h.1)), _, _, _, _, by rw [few_step fewC hq]; exact hNn⟩ (by (try dsimp only); omega)
  ·refine Zo (ZdTf rfl rfl) rfl<|Ze<|Zf rfl<|Zx rfl<|Zs<|Zr<|Zom rfl rfl<|Zoa rfl rfl<|Ze<|X.ret1 Zf9 Tryz.results9 rfl ?_
   have hi60 : i = 60 := by omega
   subst hi60
   exact ⟨_, _, _, _, _, rfl, hNR, hk⟩
 ·refine Zomf rfl rfl<|Zp rfl rfl rfl<|Zp rfl rfl rfl<|Zo (ZdFf rfl rfl) rfl<|Ze<|Zf rfl<|Zx rfl<|Zs<|Zr<|Zom rfl rfl<|Zoa rfl rfl<|Ze<|X.ret1 Zf9 Tryz.results9 rfl ?_
  have e : l.take i = l.take 60 := by rw [List.take_of_length_le Zz, List.take_of_length_le Zz]
  rw [e] at hNR
  exact ⟨_, _, _, _, _, rfl, hNR, hk⟩
theorem few_len (l : List CD) : (fewL l).length ≤ 60 := by
  rw [fewL, List.length_map, List.length_take]; omega
abbrev HH := Option Addr × Nat × Nat
def KH : Kd HH := Kd.plain 1 (fun x => [.slice x.1 x.2.1 x.2.2]) (fun _ => True) (fun _ => rfl) (fun _ u hu => by simp at hu; subst hu; rfl)
theorem KH_flat : Flat KH := fun h => h
theorem repsH {w : World} (x : HH) : RepsV KH w [x] [.slice x.1 x.2.1 x.2.2] := ⟨⟨_, rfl, rfl, trivial⟩, trivial⟩
theorem EH : ElemInfo Tryz.prog 22 1 24 := ElemInfo.of (z := .slice none 0 0) Zl rfl rfl rfl
def NdPg (lo hi : Nat) (w0 : World) : Nd HH (List CD) where
  K := KH
  flat := KH_flat
  R := fun TB w x p => x.2.1 ≤ x.2.2 ∧ ∃ L, HdC lo hi w0 L p ∧ ∃ lo' hi', (∀ k, lo' ≤ k → k < hi' → TB k) ∧ Sl KCt lo' hi' w x.1 x.2.1 L
  ext := fun ⟨h1, L, h2, lo', hi', h3, h4⟩ y hU => ⟨h1, L, h2, lo', hi', h3, h4.ext y fun k a b => hU k (h3 k a b)⟩
  mono := fun ⟨h1, L, h2, lo', hi', h3, h4⟩ hT => ⟨h1, L, h2, lo', hi', fun k a b => hT k (h3 k a b), h4⟩
theorem mine_pg {lo hi : Nat} {w0 w : World} {S : Nat → Prop} {A : Option Addr} {n c : Nat} {L : List CT} {p : List CD} (h : Mine KCt 40 S 0 0 w (.slice A n c) L) (ht : HdC lo hi w0 L p) : (NdPg lo hi w0).R S w (A, n, c) p := by
  obtain ⟨b, ho, hb⟩ := h
  cases b with
  | none =>
    obtain ⟨A', c', e, hc, hs⟩ := (ho.flat KCt_flat (lo' := 0) (hi' := 0)).sl (fun k hk => by cases hk)
    injection e with e1 e2 e3
    subst e1 e2 e3
    exact ⟨hc, L, ht, 0, 0, fun k _ h => by omega, hs⟩
  | some b =>
    obtain ⟨A', c', e, hc, hs⟩ := (ho.flat KCt_flat (lo' := b) (hi' := b + 1)).sl (fun k hk => by cases hk; omega)
    injection e with e1 e2 e3
    subst e1 e2 e3
    exact ⟨hc, L, ht, b, b + 1, fun k h1 h2 => by have : k = b := by omega
                                                  rw [this]; exact hb b rfl, hs⟩
theorem HdC.snoc {lo hi : Nat} {w : World} {L : List CT} {p : List CD} {x : CT} {q : CD} (h : HdC lo hi w L p) (h1 : x.2 = q.2) (h2 : okI q.2) (h3 : x.1.2.1 ≤ x.1.2.2) (h4 : Sl KV lo hi w x.1.1 x.1.2.1 q.1) : HdC lo hi w (L ++ [x]) (p ++ [q]) := by
  refine ⟨by rw [List.length_append, List.length_append, h.1]; rfl, fun i y hy => ?_⟩
  rcases Nat.lt_or_ge i L.length with hi' | hi'
  · rw [List.getElem?_append_left hi'] at hy
    rw [List.getElem?_append_left (by rw [← h.1]; exact hi')]
    exact h.2 i y hy
  · have hl := (List.getElem?_eq_some_iff.1 hy).1
    rw [List.length_append, List.length_singleton] at hl
    have e : i = L.length := by omega
    subst e
    rw [List.getElem?_append_right (Nat.le_refl _), Nat.sub_self] at hy
    cases hy
    exact ⟨q, by rw [h.1, List.getElem?_append_right (Nat.le_refl _), Nat.sub_self]; rfl, h1, h2, h3, h4⟩
theorem HdC.nil (lo hi : Nat) (w : World) : HdC lo hi w [] [] := ⟨rfl, fun i x h => by simp at h⟩
structure PgS (lo hi base : Nat) (w0 w : World) (v : Value) (hs : List HH) (ps : List (List CD)) (cur : List CD) (So Sc Gp : Nat → Prop) (Lc : List CT) : Prop where
  o : Mine KH 22 So 0 0 w v hs
  so : ∀ k, So k → base ≤ k ∧ k < w.heap.size
  sc : ∀ k, Sc k → base ≤ k ∧ k < w.heap.size
  gp : ∀ k, Gp k → base ≤ k ∧ k < w.heap.size
  d1 : ∀ k, So k → ¬ Sc k ∧ ¬ Gp k
  d2 : ∀ k, Sc k → ¬ Gp k
  b : base ≤ w.heap.size
  hc : HdC lo hi w0 Lc cur
  e : (hs = [] ∧ ps = [] ∧ cur = []) ∨ ∃ L x, hs = L ++ [x] ∧ (NdPg lo hi w0).All Gp w L ps ∧ Mine KCt 40 Sc 0 0 w (.slice x.1 x.2.1 x.2.2) Lc ∧ cur ≠ []
section
variable {lo hi base : Nat} {w0 w w' : World} {v : Value} {hs : List HH} {ps : List (List CD)} {cur : List CD} {So Sc Gp : Nat → Prop} {Lc : List CT}
theorem PgS.nil (lo hi base : Nat) (w0 w : World) (hb : base ≤ w.heap.size) : PgS lo hi base w0 w (.slice none 0 0) [] [] [] (fun _ => False) (fun _ => False) (fun _ => False) [] :=
  ⟨Mine.nil _ _ _ _ _ _, fun _ h => h.elim, fun _ h => h.elim, fun _ h => h.elim, fun _ h => h.elim, fun _ h => h.elim, hb, HdC.nil _ _ _, .inl ⟨rfl, rfl, rfl⟩⟩
theorem PgS.keep (h : PgS lo hi base w0 w v hs ps cur So Sc Gp Lc) (x : Keep w w') : PgS lo hi base w0 w' v hs ps cur So Sc Gp Lc := by
  have hz := x.size
  exact ⟨h.o.keep x, fun k a => by have := h.so k a; omega, fun k a => by have := h.sc k a; omega, fun k a => by have := h.gp k a; omega, h.d1, h.d2, by have := h.b; omega, h.hc, h.e.imp id fun ⟨L, y, h1, h2, h3, h4⟩ => ⟨L, y, h1, h2.keep x, h3.keep x, h4⟩⟩
theorem PgS.more {L : List HH} {x x' : HH} {y : CT} {q : CD} {v' : Value} (h : PgS lo hi base w0 w v (L ++ [x]) ps cur So Sc Gp Lc) (hm : Mine KCt 40 (fun k => Sc k ∨ w.heap.size ≤ k) 0 0 w' (.slice x'.1 x'.2.1 x'.2.2) (Lc ++ [y])) (ho : Mine KH 22 So 0 0 w' v' (L ++ [x'])) (hx : Ext (fun k => So k ∨ Sc k ∨ w.heap.size ≤ k) w w') (h1 : y.2 = q.2) (h2 : okI q.2) (h3 : y.1.2.1 ≤ y.1.2.2) (h4 : Sl KV lo hi w0 y.1.1 y.1.2.1 q.1) : PgS lo hi base w0 w' v' (L ++ [x']) ps (cur ++ [q]) So (fun k => (Sc k ∨ w.heap.size ≤ k) ∧ k < w'.heap.size) Gp (Lc ++ [y]) := by
  have hz := hx.size
  have hb := h.b
  rcases h.e with ⟨e, _⟩ | ⟨L', z, e, hA, _, _⟩
  · exact absurd e (by simp)
  have e1 := congrArg (List.take L.length) e
  have hl : L'.length = L.length := by have := congrArg List.length e; simpa using this.symm
  rw [List.take_left' rfl, List.take_left' hl] at e1
  subst e1
  refine ⟨ho, fun k a => by have := h.so k a; omega, fun k a => ?_, fun k a => by have := h.gp k a; omega, fun k a => ⟨fun b => ?_, (h.d1 k a).2⟩, fun k a b => ?_, by omega, h.hc.snoc h1 h2 h3 h4, .inr ⟨L, x', rfl, hA.ext hx fun k a b => ?_, hm.mono fun k a b => ⟨b, a⟩, by simp⟩⟩
  · rcases a with ⟨a | a, a'⟩
    · have := h.sc k a; omega
    · omega
  · rcases b with ⟨b | b, _⟩
    · exact (h.d1 k a).1 b
    · have := h.so k a; omega
  · rcases a with ⟨a | a, _⟩
    · exact h.d2 k a b
    · have := h.gp k b; omega
  · rcases b with b | b | b
    · exact (h.d1 k b).2 a
    · exact h.d2 k b a
    · have := h.gp k a; omega
theorem PgS.page {w1 : World} {x' : HH} {y : CT} {q : CD} {v' : Value} {Sn : Nat → Prop} (h : PgS lo hi base w0 w v hs ps cur So Sc Gp Lc) (hk : Keep w w1) (hm : Mine KCt 40 Sn 0 0 w1 (.slice x'.1 x'.2.1 x'.2.2) [y]) (hSn : ∀ k, Sn k → w.heap.size ≤ k ∧ k < w1.heap.size) (ho : Mine KH 22 (fun k => So k ∨ w1.heap.size ≤ k) 0 0 w' v' (hs ++ [x'])) (hx : Ext (fun k => So k ∨ w1.heap.size ≤ k) w1 w') (h1 : y.2 = q.2) (h2 : okI q.2) (h3 : y.1.2.1 ≤ y.1.2.2) (h4 : Sl KV lo hi w0 y.1.1 y.1.2.1 q.1) :
    PgS lo hi base w0 w' v' (hs ++ [x']) (if cur = [] then ps else ps ++ [cur]) [q] (fun k => (So k ∨ w1.heap.size ≤ k) ∧ k < w'.heap.size) Sn (fun k => Gp k ∨ Sc k) [y] := by
  have hz := hx.size
  have hz1 := hk.size
  have hb := h.b
  have hm' : Mine KCt 40 Sn 0 0 w' (.slice x'.1 x'.2.1 x'.2.2) [y] := hm.ext hx (fun k _ b => by omega) fun k a b => by
    have := hSn k a
    rcases b with b | b
    · have := h.so k b; omega
    · omega
  have hd : HdC lo hi w0 [y] [q] := by simpa using (HdC.nil lo hi w0).snoc h1 h2 h3 h4
  refine ⟨ho.mono fun k a b => ⟨b, a⟩, fun k a => ?_, fun k a => by have := hSn k a; omega, fun k a => ?_, fun k a => ⟨fun b => ?_, fun b => ?_⟩, fun k a b => ?_, by omega, hd, .inr ⟨hs, x', rfl, ?_, hm', by simp⟩⟩
  · rcases a with ⟨a | a, a'⟩
    · have := h.so k a; omega
    · omega
  · rcases a with a | a
    · have := h.gp k a; omega
    · have := h.sc k a; omega
  · have := hSn k b
    rcases a with ⟨a | a, _⟩
    · have := h.so k a; omega
    · omega
  · rcases a with ⟨a | a, _⟩
    · rcases b with b | b
      · exact (h.d1 k a).2 b
      · exact (h.d1 k a).1 b
    · rcases b with b | b
      · have := h.gp k b; omega
      · have := h.sc k b; omega
  · have := hSn k a
    rcases b with b | b
    · have := h.gp k b; omega
    · have := h.sc k b; omega
  · rcases h.e with ⟨e1, e2, e3⟩ | ⟨L, x, e1, hA, hM, hne⟩
    · subst e1 e2 e3
      rw [if_pos rfl]
      exact Nd.All.nil _ _ _
    · rw [if_neg hne, e1]
      have hR := mine_pg (hM.keep hk) h.hc
      refine ((((hA.keep hk).mono (TC := fun k => Gp k ∨ Sc k) fun k a => .inl a).snoc ((NdPg lo hi w0).mono hR fun k a => .inr a)).ext hx fun k a b => ?_)
      rcases b with b | b
      · rcases a with a | a
        · exact (h.d1 k b).2 a
        · exact (h.d1 k b).1 a
      · rcases a with a | a
        · have := h.gp k a; omega
        · have := h.sc k a; omega
theorem PgS.all (h : PgS lo hi base w0 w v hs ps cur So Sc Gp Lc) : NRow (NdPg lo hi w0) 22 base w.heap.size So (fun k => Gp k ∨ Sc k) w v hs (if cur = [] then ps else ps ++ [cur]) := by
  refine ⟨h.o, ?_, h.so, fun k a => a.elim (h.gp k) (h.sc k), Nat.le_refl _, fun k a b => b.elim (h.d1 k a).2 (h.d1 k a).1, h.b⟩
  rcases h.e with ⟨e1, e2, e3⟩ | ⟨L, x, e1, hA, hM, hne⟩
  · subst e1 e2 e3
    rw [if_pos rfl]
    exact Nd.All.nil _ _ _
  · rw [if_neg hne, e1]
    exact (hA.mono (TC := fun k => Gp k ∨ Sc k) fun k a => .inl a).snoc ((NdPg lo hi w0).mono (mine_pg hM h.hc) fun k a => .inr a)
end
theorem pgs_more {q : CD} {l cur : List CD} {i : Nat} (hq : l[i]? = some q) (h : ¬ (cur ≠ [] ∧ 256 < (cur.flatMap entB).length + (entB q).length)) : pgsF cur (l.drop i) = pgsF (cur ++ [q]) (l.drop (i + 1)) := by
  have hi := (List.getElem?_eq_some_iff.1 hq).1
  rw [List.drop_eq_getElem_cons hi, show l[i] = q from (List.getElem?_eq_some_iff.1 hq).2, pgsF, if_neg h]
theorem pgs_next {q : CD} {l cur : List CD} {ps : List (List CD)} {i : Nat} (hq : l[i]? = some q) (h : cur = [] ∨ 256 < (cur.flatMap entB).length + (entB q).length) : ps ++ pgsF cur (l.drop i) = (if cur = [] then ps else ps ++ [cur]) ++ pgsF [q] (l.drop (i + 1)) := by
  have hi := (List.getElem?_eq_some_iff.1 hq).1
  rw [List.drop_eq_getElem_cons hi, show l[i] = q from (List.getElem?_eq_some_iff.1 hq).2, pgsF]
  by_cases hc : cur = []
  · subst hc
    rw [if_neg (fun e => e.1 rfl), if_pos rfl]; rfl
  · rw [if_pos ⟨hc, h.resolve_left hc⟩, if_neg hc]; simp
theorem pgs_last {l cur : List CD} {ps : List (List CD)} {i : Nat} (h : l.length ≤ i) : ps ++ pgsF cur (l.drop i) = if cur = [] then ps else ps ++ [cur] := by
  rw [List.drop_of_length_le h, pgsF]
  split <;> simp
theorem set_last {α : Type} (L : List α) (x y : α) : (L ++ [x]).set L.length y = L ++ [y] := by rw [List.set_append_right _ _ (Nat.le_refl _), Nat.sub_self]; rfl
theorem get_last {α : Type} (L : List α) (x : α) : (L ++ [x])[L.length]? = some x := by rw [List.getElem?_append_right (Nat.le_refl _), Nat.sub_self]; rfl
theorem RPages_c {lo hi : Nat} {A : Option Addr} {n c : Nat} {l : List CD} (w : World) (hs : Sl KC lo hi w A n l) (hhi : hi ≤ w.heap.size) (hn : n ≤ 4000) (hok : Oks l) : Ret Tryz.prog 22 #[.slice A n c] w fun r w' => ∃ v L m S G, r = v ∧ NRow (NdPg lo hi w) 22 w.heap.size m S G w' v L (pgs l) ∧ Keep w w' := by
 obtain ⟨L, hsL, hLl, hLt⟩ := kc_hd hs
 have hsl := hs.len
 have hsb := hs.bound
 refine X.enter Tryz.func22 rfl Tryz.ntmps22 rfl<|Zs<|Zr<|Zoa rfl rfl<|Ze<|Zs<|Zr<|Zoa rfl rfl<|Ze<|Zs<|Zr<|Zoa rfl rfl<|Ze<|Zs<|Zs<|Zr<|Zoa rfl rfl<|Ze<|Zb<|X.loopL (σ := Nat × Value × Int) (fun s => [(0, .slice A n c), (3, s.2.1), (4, .int .i64 s.2.2), (5, .int .i64 (s.1 : Int))]) (fun s w' => s.1 ≤ n ∧ Keep w w' ∧ ∃ hr ps cur So Sc Gp Lc, PgS lo hi w.heap.size w w' s.2.1 hr ps cur So Sc Gp Lc ∧ pgs l = ps ++ pgsF cur (l.drop s.1) ∧ s.2.2 = ((cur.flatMap entB).length : Int) ∧ hr.length ≤ s.1 ∧ cur.length ≤ s.1 ∧ (cur.flatMap entB).length ≤ s.1 * 2200) (fun s => n - s.1) (0, .slice none 0 0, 0) ⟨rfl, rfl, rfl, rfl, trivial⟩ ⟨Nat.zero_le _, (Keep.refl _), [], [], [], _, _, _, _, PgS.nil lo hi w.heap.size w w (Nat.le_refl _), rfl, rfl, Nat.le_refl _, Nat.le_refl _, Nat.le_refl _⟩ ?_
 rintro ⟨i, v, Z⟩ b wo ⟨hi0, hk, hr, ps, cur, So, Sc, Gp, Lc, hP, hpg, hZ, hhl, hcl, hcb⟩ hback
 dsimp only
 dsimp only at hi0 hP hpg hZ hhl hcl hcb
 have hk0 := hk.size
 obtain ⟨Ao, co, rfl, hco, hmo⟩ := hP.o.slice
 obtain ⟨kz, hkz⟩ : ∃ kz : Int, kz = (hr.length : Int) - 1 := ⟨_, rfl⟩
 subst hZ
 refine Zs<|Zs<|Zr<|Zomi rfl rfl<|Zoms rfl rfl<|Zo (X.lenSl Zu22 rfl) rfl<|X.opP X.wN rfl rfl (X.lss rfl rfl) (fun h11 => ?_) (fun h11 => ?_)
 ·obtain ⟨x, hx⟩ : ∃ x, L[i]? = some x := ⟨_, List.getElem?_eq_getElem Zz⟩
  obtain ⟨q, hq, eq, oq, nq, ht⟩ := hLt _ _ hx
  have hbq := entB_le (q := q) (by first | exact hok q (List.mem_of_getElem? hq) | exact (hok q (List.mem_of_getElem? hq)).2)
  refine Ze<|Zt rfl<|Zk<|Zs<|Zb<|Zs<|Zr<|Zoms rfl rfl<|Zomi rfl rfl<|Zo (X.idxS (hsL.keep hk) Zu22 Zs40 rfl rfl ⟨by omega, by omega⟩) rfl<|Zo (X.loadSN Zi40 Zs40 (hsL.keep hk) hx rfl (fun _ h => h.1) rfl) rfl<|Zc (X.callE (Rentry_c (q := q) _ (ht.keep hk) Zz (by rw [eq]; exact oq) eq) Tryz.call63 rfl rfl) rfl ?_
  rintro v1 w1 ⟨hM1, hk1⟩
  have hk1' := hk1.size
  have q2 := hM1.slF KB_flat 0 (fun _ _ => Nat.zero_le _)
  obtain ⟨A2, c2, rfl, hc2, hs2⟩ := q2
  refine Zo (X.lenSl Zu43 rfl) rfl<|Zoai rfl rfl<|Ze<|Zs<|Zr<|Zom rfl rfl<|Zo (X.lenSl Zu48 rfl) rfl<|Zo (X.sub (c := kz) rfl rfl (by rw [X.w_i64 Zz]; omega)) rfl ?_
  refine Zoai rfl rfl<|Ze<|Zs<|Zs<|Zr<|Zomi rfl rfl<|X.opP X.wN rfl rfl (X.geq rfl rfl) (fun h24 => ?_) (fun h24 => ?_)
  ·rcases hP.e with ⟨e, _, _⟩ | ⟨L, x0, rfl, hA, hMc, hcn⟩
   ·exact absurd h24 (by rw [hkz, e]; decide)
   rw [List.length_append, List.length_singleton] at hkz hhl hco hmo
   have hkk : kz = (L.length : Int) := by omega
   subst hkk
   obtain ⟨Ao', co', e', hco', hso⟩ := hP.o.slF KH_flat w.heap.size (fun k a => (hP.so k a).1)
   injection e' with e1 e2 e3
   subst e1 e3
   have hgl := get_last L x0
   have hLx : (L ++ [x0]).length = L.length + 1 := by simp
   refine Zomt rfl rfl<|Zg (Zdmi rfl) rfl rfl rfl rfl<|Zg (Zdmi rfl) rfl rfl rfl rfl<|Zg (X.add rfl rfl (X.w_i64 Zz)) rfl rfl rfl rfl<|X.opP (X.wG rfl rfl rfl) rfl rfl (X.leq rfl rfl) (fun h29 => ?_) (fun h29 => ?_)
   ·have hmo2 := pgs_more (cur := cur) hq (fun h => by have := h.2; omega)
    refine Zo (ZdTt rfl rfl) rfl<|Ze<|Zt rfl<|Zs<|X.regionD (fun k => w.heap.size ≤ k) 12 Zl Zl (fun w3 hk3 hz3 => ?_)
    refine ZDc 0 rfl Zl (X.move rfl)<|ZDc 1 rfl Zl (Zdmi rfl)<|ZDc 2 rfl Zl (X.move rfl)<|ZDc 3 rfl Zl (Zdmi rfl)<|ZDc 6 rfl Zl (Zdms rfl)<|ZDc 7 rfl Zl (Zdmi rfl)<|ZD 8 rfl Zl (fun w' hk' => X.idxS (hsL.keep (((hk.trans hk1).trans hk3).step hk' zq34)) Zu22 Zs40 rfl rfl ⟨by omega, by omega⟩) ?_
    refine ZD 9 rfl Zl (fun w' hk' => X.loadSN Zi40 Zs40 (hsL.keep (((hk.trans hk1).trans hk3).step hk' zq34)) hx rfl (fun _ h => h.1) rfl) ?_
    refine X.dTwo (i := 4) (j := 10) Zl ?_ ?_
    ·refine X.d1Step (i := 4) rfl (X.dwN rfl) (X.idxS (hso.keep (hk1.trans hk3)) Zu48 Zs22 rfl rfl ⟨by omega, by omega⟩) (fun _ => Ext.refl _ _) ?_
     refine X.dTwo (i := 5) (j := 10) Zl ?_ ?_
     ·refine X.d1Step (i := 5) rfl (X.dwN rfl) (X.loadS Zi22 (hso.keep (hk1.trans hk3)) hgl rfl (fun _ h => by rw [h.1]; rfl)) (fun _ => Ext.refl _ _) ?_
      refine X.dE (i := 10) Zl rfl (X.dwN rfl) (X.litKF KCt_flat (K := KCt) (xs := [Operand.tmp 40]) (vs := [evC x]) (ys := [x]) Zu22 Zs40 Zv40 rfl rfl rfl rfl rfl (repsC _)) (by rintro _ w4 ⟨rfl, hs4, hB4, hk4, hz4⟩ _; exact hk4.mono (fun _ _ h => h.elim)) ?_
      rintro _ w4 ⟨rfl, hs4, hB4, hk4, hz4⟩
      refine X.dE (i := 11) Zl rfl (X.dwN rfl) (X.appE (K := KCt) (S := fun k => Sc k ∨ w4.heap.size ≤ k) KCt_flat Zu22 ECt rfl rfl ((hMc.keep ((hk1.trans hk3).trans hk4)).mono (fun k _ a => .inl a)) hs4 (by simp only [List.length_cons, List.length_nil, hP.hc.1]; omega) (fun k a => .inr a)) (by rintro v42 w5 ⟨hM42, hx5⟩ _; exact hx5.mono (fun k _ a => a.elim (fun a => (hP.sc k a).1) (fun a => by (have a : _ ≤ k := a); omega))) ?_
      rintro v42 w5 ⟨hM42, hx5⟩
      have hx5' := hx5.size
      refine X.dStep (i := 12) Zl rfl (X.dwN rfl) (X.idxS (((hP.o.keep ((hk1.trans hk3).trans hk4)).ext hx5 (fun k _ b => by omega) (fun k a b => b.elim (fun b => (hP.d1 k a).1 b) (fun b => by have := hP.so k a; omega))).rd KH_flat).2 Zu48 Zs22 rfl rfl ⟨by omega, by omega⟩) (fun h => absurd h (by decide)) ?_
      obtain ⟨A4, c4, e4, hc4, _⟩ := hM42.slice
      subst e4
      refine X.dE (i := 13) Zl rfl (X.dwN rfl) (X.storeME (K := KH) (j := L.length) (y' := (A4, (Lc ++ [x]).length, c4)) (vs := [.slice A4 (Lc ++ [x]).length c4]) KH_flat Zs22 ((hP.o.keep ((hk1.trans hk3).trans hk4)).ext hx5 (fun k _ b => by omega) (fun k a b => b.elim (fun b => (hP.d1 k a).1 b) (fun b => by have := hP.so k a; omega))) Zz rfl rfl rfl (fun u hu => by simp at hu; subst hu; rfl) rfl ⟨rfl, trivial⟩) (fun _ _ _ h => absurd h (by decide)) ?_
      rintro _ w6 ⟨hM6, hx6, hz6⟩
      refine Zdend Zl<|Zs<|Zr<|Zomi rfl rfl<|Zomi rfl rfl<|Zo (X.add rfl rfl (X.w_i64 Zz)) rfl<|Zoai rfl rfl<|Ze<|Zx rfl<|Zr<|Zomi rfl rfl<|Zo (X.add rfl rfl (X.w_i64 Zz)) rfl<|Zoai rfl rfl<|Ze ?_
      have hQ := (hP.keep ((hk1.trans hk3).trans hk4)).more (x' := (A4, (Lc ++ [x]).length, c4)) (v' := .slice Ao (L ++ [x0]).length co) (hM42.ext hx6 (fun k _ b => by omega) (fun k a b => a.elim (fun a => (hP.d1 k b).1 a) (fun a => by have := hP.so k b; omega))) (by have h := hM6; rw [set_last] at h; exact h) (hx5.trans hx6 (fun k _ a => a.elim (fun a => .inr (.inl a)) (fun a => .inr (.inr a))) (fun k _ a => .inl a)) eq oq nq ht
      refine hback (i + 1, .slice Ao (L ++ [x0]).length co, ((cur.flatMap entB).length : Int) + ((entB q).length : Int)) _ _ ⟨rfl, rfl, rfl, rfl, trivial⟩ ⟨by omega, (((hk.trans ((hk1.trans hk3).trans hk4)).step hx5 (fun k a => a.elim (fun a => (hP.sc k a).1) (fun a => by have a : _ ≤ k := a; omega))).step hx6 (fun k a => (hP.so k a).1)), _, _, _, _, _, _, _, hQ, by rw [hpg, hmo2], (by rw [List.flatMap_append, List.length_append]; simp), (by rw [List.length_append, List.length_singleton]; omega), (by rw [List.length_append, List.length_singleton]; omega), (by rw [List.flatMap_append, List.length_append]; simp only [List.flatMap_cons, List.flatMap_nil, List.append_nil]; omega)⟩ (by (try dsimp only); omega)
     ·refine X.d1E (i := 10) rfl (X.dwN rfl) (X.litKF KCt_flat (K := KCt) (xs := [Operand.tmp 40]) (vs := [evC x]) (ys := [x]) Zu22 Zs40 Zv40 rfl rfl rfl rfl rfl (repsC _)) (by rintro _ w7 ⟨rfl, hs7, hB7, hk7, hz7⟩ _; exact hk7.mono (fun _ _ h => h.elim)) ?_
      rintro _ w7 ⟨rfl, hs7, hB7, hk7, hz7⟩
      refine X.dStep (i := 5) Zl rfl (X.dwN rfl) (X.loadS Zi22 (hso.keep ((hk1.trans hk3).trans hk7)) hgl rfl (fun _ h => by rw [h.1]; rfl)) (fun _ => Ext.refl _ _) ?_
      refine X.dE (i := 11) Zl rfl (X.dwN rfl) (X.appE (K := KCt) (S := fun k => Sc k ∨ w7.heap.size ≤ k) KCt_flat Zu22 ECt rfl rfl ((hMc.keep ((hk1.trans hk3).trans hk7)).mono (fun k _ a => .inl a)) hs7 (by simp only [List.length_cons, List.length_nil, hP.hc.1]; omega) (fun k a => .inr a)) (by rintro v42 w8 ⟨hM42, hx8⟩ _; exact hx8.mono (fun k _ a => a.elim (fun a => (hP.sc k a).1) (fun a => by (have a : _ ≤ k := a); omega))) ?_
      rintro v42 w8 ⟨hM42, hx8⟩
      have hx8' := hx8.size
      refine X.dStep (i := 12) Zl rfl (X.dwN rfl) (X.idxS (((hP.o.keep ((hk1.trans hk3).trans hk7)).ext hx8 (fun k _ b => by omega) (fun k a b => b.elim (fun b => (hP.d1 k a).1 b) (fun b => by have := hP.so k a; omega))).rd KH_flat).2 Zu48 Zs22 rfl rfl ⟨by omega, by omega⟩) (fun h => absurd h (by decide)) ?_
      obtain ⟨A4, c4, e4, hc4, _⟩ := hM42.slice
      subst e4
      refine X.dE (i := 13) Zl rfl (X.dwN rfl) (X.storeME (K := KH) (j := L.length) (y' := (A4, (Lc ++ [x]).length, c4)) (vs := [.slice A4 (Lc ++ [x]).length c4]) KH_flat Zs22 ((hP.o.keep ((hk1.trans hk3).trans hk7)).ext hx8 (fun k _ b => by omega) (fun k a b => b.elim (fun b => (hP.d1 k a).1 b) (fun b => by have := hP.so k a; omega))) Zz rfl rfl rfl (fun u hu => by simp at hu; subst hu; rfl) rfl ⟨rfl, trivial⟩) (fun _ _ _ h => absurd h (by decide)) ?_
      rintro _ w9 ⟨hM9, hx9, hz9⟩
      refine Zdend Zl<|Zs<|Zr<|Zomi rfl rfl<|Zomi rfl rfl<|Zo (X.add rfl rfl (X.w_i64 Zz)) rfl<|Zoai rfl rfl<|Ze<|Zx rfl<|Zr<|Zomi rfl rfl<|Zo (X.add rfl rfl (X.w_i64 Zz)) rfl<|Zoai rfl rfl<|Ze ?_
      have hQ := (hP.keep ((hk1.trans hk3).trans hk7)).more (x' := (A4, (Lc ++ [x]).length, c4)) (v' := .slice Ao (L ++ [x0]).length co) (hM42.ext hx9 (fun k _ b => by omega) (fun k a b => a.elim (fun a => (hP.d1 k b).1 a) (fun a => by have := hP.so k b; omega))) (by have h := hM9; rw [set_last] at h; exact h) (hx8.trans hx9 (fun k _ a => a.elim (fun a => .inr (.inl a)) (fun a => .inr (.inr a))) (fun k _ a => .inl a)) eq oq nq ht
      refine hback (i + 1, .slice Ao (L ++ [x0]).length co, ((cur.flatMap entB).length : Int) + ((entB q).length : Int)) _ _ ⟨rfl, rfl, rfl, rfl, trivial⟩ ⟨by omega, (((hk.trans ((hk1.trans hk3).trans hk7)).step hx8 (fun k a => a.elim (fun a => (hP.sc k a).1) (fun a => by have a : _ ≤ k := a; omega))).step hx9 (fun k a => (hP.so k a).1)), _, _, _, _, _, _, _, hQ, by rw [hpg, hmo2], (by rw [List.flatMap_append, List.length_append]; simp), (by rw [List.length_append, List.length_singleton]; omega), (by rw [List.length_append, List.length_singleton]; omega), (by rw [List.flatMap_append, List.length_append]; simp only [List.flatMap_cons, List.flatMap_nil, List.append_nil]; omega)⟩ (by (try dsimp only); omega)
    ·refine X.d1E (i := 10) rfl (X.dwN rfl) (X.litKF KCt_flat (K := KCt) (xs := [Operand.tmp 40]) (vs := [evC x]) (ys := [x]) Zu22 Zs40 Zv40 rfl rfl rfl rfl rfl (repsC _)) (by rintro _ w10 ⟨rfl, hs10, hB10, hk10, hz10⟩ _; exact hk10.mono (fun _ _ h => h.elim)) ?_
     rintro _ w10 ⟨rfl, hs10, hB10, hk10, hz10⟩
     refine X.dStep (i := 4) Zl rfl (X.dwN rfl) (X.idxS (hso.keep ((hk1.trans hk3).trans hk10)) Zu48 Zs22 rfl rfl ⟨by omega, by omega⟩) (fun _ => Ext.refl _ _)<|X.dStep (i := 5) Zl rfl (X.dwN rfl) (X.loadS Zi22 (hso.keep ((hk1.trans hk3).trans hk10)) hgl rfl (fun _ h => by rw [h.1]; rfl)) (fun _ => Ext.refl _ _) ?_
     refine X.dE (i := 11) Zl rfl (X.dwN rfl) (X.appE (K := KCt) (S := fun k => Sc k ∨ w10.heap.size ≤ k) KCt_flat Zu22 ECt rfl rfl ((hMc.keep ((hk1.trans hk3).trans hk10)).mono (fun k _ a => .inl a)) hs10 (by simp only [List.length_cons, List.length_nil, hP.hc.1]; omega) (fun k a => .inr a)) (by rintro v42 w11 ⟨hM42, hx11⟩ _; exact hx11.mono (fun k _ a => a.elim (fun a => (hP.sc k a).1) (fun a => by (have a : _ ≤ k := a); omega))) ?_
     rintro v42 w11 ⟨hM42, hx11⟩
     have hx11' := hx11.size
     refine X.dStep (i := 12) Zl rfl (X.dwN rfl) (X.idxS (((hP.o.keep ((hk1.trans hk3).trans hk10)).ext hx11 (fun k _ b => by omega) (fun k a b => b.elim (fun b => (hP.d1 k a).1 b) (fun b => by have := hP.so k a; omega))).rd KH_flat).2 Zu48 Zs22 rfl rfl ⟨by omega, by omega⟩) (fun h => absurd h (by decide)) ?_
     obtain ⟨A4, c4, e4, hc4, _⟩ := hM42.slice
     subst e4
     refine X.dE (i := 13) Zl rfl (X.dwN rfl) (X.storeME (K := KH) (j := L.length) (y' := (A4, (Lc ++ [x]).length, c4)) (vs := [.slice A4 (Lc ++ [x]).length c4]) KH_flat Zs22 ((hP.o.keep ((hk1.trans hk3).trans hk10)).ext hx11 (fun k _ b => by omega) (fun k a b => b.elim (fun b => (hP.d1 k a).1 b) (fun b => by have := hP.so k a; omega))) Zz rfl rfl rfl (fun u hu => by simp at hu; subst hu; rfl) rfl ⟨rfl, trivial⟩) (fun _ _ _ h => absurd h (by decide)) ?_
     rintro _ w12 ⟨hM12, hx12, hz12⟩
     refine Zdend Zl<|Zs<|Zr<|Zomi rfl rfl<|Zomi rfl rfl<|Zo (X.add rfl rfl (X.w_i64 Zz)) rfl<|Zoai rfl rfl<|Ze<|Zx rfl<|Zr<|Zomi rfl rfl<|Zo (X.add rfl rfl (X.w_i64 Zz)) rfl<|Zoai rfl rfl<|Ze ?_
     have hQ := (hP.keep ((hk1.trans hk3).trans hk10)).more (x' := (A4, (Lc ++ [x]).length, c4)) (v' := .slice Ao (L ++ [x0]).length co) (hM42.ext hx12 (fun k _ b => by omega) (fun k a b => a.elim (fun a => (hP.d1 k b).1 a) (fun a => by have := hP.so k b; omega))) (by have h := hM12; rw [set_last] at h; exact h) (hx11.trans hx12 (fun k _ a => a.elim (fun a => .inr (.inl a)) (fun a => .inr (.inr a))) (fun k _ a => .inl a)) eq oq nq ht
     refine hback (i + 1, .slice Ao (L ++ [x0]).length co, ((cur.flatMap entB).length : Int) + ((entB q).length : Int)) _ _ ⟨rfl, rfl, rfl, rfl, trivial⟩ ⟨by omega, (((hk.trans ((hk1.trans hk3).trans hk10)).step hx11 (fun k a => a.elim (fun a => (hP.sc k a).1) (fun a => by have a : _ ≤ k := a; omega))).step hx12 (fun k a => (hP.so k a).1)), _, _, _, _, _, _, _, hQ, by rw [hpg, hmo2], (by rw [List.flatMap_append, List.length_append]; simp), (by rw [List.length_append, List.length_singleton]; omega), (by rw [List.length_append, List.length_singleton]; omega), (by rw [List.flatMap_append, List.length_append]; simp only [List.flatMap_cons, List.flatMap_nil, List.append_nil]; omega)⟩ (by (try dsimp only); omega)
   ·have hnx := pgs_next (cur := cur) (ps := ps) hq (.inr Zz)
    refine Zo (ZdTf rfl rfl) rfl<|Ze<|Zf rfl<|Zk<|Zs<|Zr<|Zom rfl rfl<|Zoms rfl rfl<|Zomi rfl rfl<|Zo (X.idxS (hsL.keep (hk.trans hk1)) Zu22 Zs40 rfl rfl ⟨by omega, by omega⟩) rfl<|Zo (X.loadSN Zi40 Zs40 (hsL.keep (hk.trans hk1)) hx rfl (fun _ h => h.1) rfl) rfl<|Zc (X.litKF KCt_flat (K := KCt) (xs := [Operand.tmp 51]) (vs := [evC x]) (ys := [x]) Zu22 Zs40 Zv40 rfl rfl rfl rfl rfl (repsC _)) rfl ?_
    rintro _ w13 ⟨rfl, hs13, hB13, hk13, hz13⟩
    refine Zc (X.litKF KH_flat (K := KH) (xs := [Operand.tmp 52]) (vs := [.slice (some ⟨w1.heap.size, 0, none⟩) 1 1]) (ys := [(some ⟨w1.heap.size, 0, none⟩, 1, 1)]) Zu48 Zs22 Tryz.zeroValue22 rfl rfl rfl rfl rfl (repsH (some ⟨w1.heap.size, 0, none⟩, 1, 1))) rfl ?_
    rintro _ w14 ⟨rfl, hs14, hB14, hk14, hz14⟩
    refine Zc (X.appE (K := KH) (S := fun k => So k ∨ w14.heap.size ≤ k) KH_flat Zu48 EH rfl rfl ((hP.o.keep ((hk1.trans hk13).trans hk14)).mono (fun k _ a => .inl a)) hs14 (by simp only [List.length_cons, List.length_nil, List.length_append]; omega) (fun k a => .inr a)) rfl ?_
    rintro v54 w15 ⟨hM54, hx15⟩
    have hx15' := hx15.size
    refine Zoa rfl rfl<|Ze<|Zr<|Zomi rfl rfl<|Zoai rfl rfl<|Ze<|Zi<|Zr<|Zomi rfl rfl<|Zo (X.add rfl rfl (X.w_i64 Zz)) rfl<|Zoai rfl rfl<|Ze ?_
    have hQ := hP.page (x' := (some ⟨w1.heap.size, 0, none⟩, 1, 1)) (Sn := fun k => k = w1.heap.size) ((hk1.trans hk13).trans hk14) (Mine.litV (K := KCt) (S := fun k => k = w1.heap.size) (vs := [evC x]) (w0 := wo) KCt_flat (hB13.keep hk14) (repsC x) rfl (show 1 ≤ 1000000 by omega) rfl) (fun k a => by have a : k = _ := a; omega) hM54 hx15 eq oq nq ht
    refine hback (i + 1, v54, ((entB q).length : Int)) _ _ ⟨rfl, rfl, rfl, rfl, trivial⟩ ⟨by omega, ((hk.trans ((hk1.trans hk13).trans hk14)).step hx15 (fun k a => a.elim (fun a => (hP.so k a).1) (fun a => by have a : _ ≤ k := a; omega))), _, _, _, _, _, _, _, hQ, by rw [hpg, hnx], (by simp), (by (try dsimp only); simp only [List.length_append, List.length_singleton] at *; omega), (by show 1 ≤ i + 1; omega), (by simp only [List.flatMap_cons, List.flatMap_nil, List.append_nil]; omega)⟩ (by (try dsimp only); omega)
  ·have hc0 : cur = [] := by
     rcases hP.e with ⟨_, _, e⟩ | ⟨L, x0, e, _⟩
     ·exact e
     ·rw [hkz, e, List.length_append, List.length_singleton] at h24; omega
   have hnx := pgs_next (ps := ps) hq (.inl hc0)
   refine Zomf rfl rfl<|Zp rfl rfl rfl<|Zp rfl rfl rfl<|Zp rfl rfl rfl<|Zp rfl rfl rfl<|Zo (ZdFf rfl rfl) rfl<|Ze<|Zf rfl<|Zk<|Zs<|Zr<|Zom rfl rfl<|Zoms rfl rfl<|Zomi rfl rfl<|Zo (X.idxS (hsL.keep (hk.trans hk1)) Zu22 Zs40 rfl rfl ⟨by omega, by omega⟩) rfl<|Zo (X.loadSN Zi40 Zs40 (hsL.keep (hk.trans hk1)) hx rfl (fun _ h => h.1) rfl) rfl<|Zc (X.litKF KCt_flat (K := KCt) (xs := [Operand.tmp 51]) (vs := [evC x]) (ys := [x]) Zu22 Zs40 Zv40 rfl rfl rfl rfl rfl (repsC _)) rfl ?_
   rintro _ w16 ⟨rfl, hs16, hB16, hk16, hz16⟩
   refine Zc (X.litKF KH_flat (K := KH) (xs := [Operand.tmp 52]) (vs := [.slice (some ⟨w1.heap.size, 0, none⟩) 1 1]) (ys := [(some ⟨w1.heap.size, 0, none⟩, 1, 1)]) Zu48 Zs22 Tryz.zeroValue22 rfl rfl rfl rfl rfl (repsH (some ⟨w1.heap.size, 0, none⟩, 1, 1))) rfl ?_
   rintro _ w17 ⟨rfl, hs17, hB17, hk17, hz17⟩
   refine Zc (X.appE (K := KH) (S := fun k => So k ∨ w17.heap.size ≤ k) KH_flat Zu48 EH rfl rfl ((hP.o.keep ((hk1.trans hk16).trans hk17)).mono (fun k _ a => .inl a)) hs17 (by simp only [List.length_cons, List.length_nil, List.length_append]; omega) (fun k a => .inr a)) rfl ?_
   rintro v54 w18 ⟨hM54, hx18⟩
   have hx18' := hx18.size
   refine Zoa rfl rfl<|Ze<|Zr<|Zomi rfl rfl<|Zoai rfl rfl<|Ze<|Zi<|Zr<|Zomi rfl rfl<|Zo (X.add rfl rfl (X.w_i64 Zz)) rfl<|Zoai rfl rfl<|Ze ?_
   have hQ := hP.page (x' := (some ⟨w1.heap.size, 0, none⟩, 1, 1)) (Sn := fun k => k = w1.heap.size) ((hk1.trans hk16).trans hk17) (Mine.litV (K := KCt) (S := fun k => k = w1.heap.size) (vs := [evC x]) (w0 := wo) KCt_flat (hB16.keep hk17) (repsC x) rfl (show 1 ≤ 1000000 by omega) rfl) (fun k a => by have a : k = _ := a; omega) hM54 hx18 eq oq nq ht
   refine hback (i + 1, v54, ((entB q).length : Int)) _ _ ⟨rfl, rfl, rfl, rfl, trivial⟩ ⟨by omega, ((hk.trans ((hk1.trans hk16).trans hk17)).step hx18 (fun k a => a.elim (fun a => (hP.so k a).1) (fun a => by have a : _ ≤ k := a; omega))), _, _, _, _, _, _, _, hQ, by rw [hpg, hnx], (by simp), (by (try dsimp only); simp only [List.length_append, List.length_singleton] at *; omega), (by show 1 ≤ i + 1; omega), (by simp only [List.flatMap_cons, List.flatMap_nil, List.append_nil]; omega)⟩ (by (try dsimp only); omega)
 ·refine Ze<|Zf rfl<|Zx rfl<|Zs<|Zr<|Zom rfl rfl<|Zoa rfl rfl<|Ze<|X.ret1 Tryz.func22 Tryz.results22 rfl ?_
  have e := pgs_last (cur := cur) (ps := ps) (l := l) (i := i) Zz
  have hF := hP.all
  rw [← e, ← hpg] at hF
  exact ⟨_, _, _, _, _, rfl, hF, hk⟩
theorem low4_step (k i : Nat) (hi : i < 4) : (low4 k).take (i + 1) = (low4 k).take i ++ [UInt8.ofNat (k / 2 ^ (8 * i))] := by
  have h : i = 0 ∨ i = 1 ∨ i = 2 ∨ i = 3 := by omega
  rcases h with rfl | rfl | rfl | rfl
  · show [UInt8.ofNat k] = [] ++ [UInt8.ofNat (k / 2 ^ 0)]
    rw [Nat.pow_zero, Nat.div_one]; rfl
  · rfl
  · rfl
  · rfl
theorem rem_u8 (n : Nat) : IntKind.u8.wrap (((n : Int).tmod 256)) = ((UInt8.ofNat n).toNat : Int) := by
  rw [show (n : Int).tmod 256 = ((n % 256 : Nat) : Int) from by rw [Int.tmod_eq_emod_of_nonneg Zz]; rfl, tail_0]
  congr 1
  rw [UInt8.toNat_ofNat', UInt8.toNat_ofNat']; omega
theorem quo_256 (n : Nat) : (n : Int).tdiv 256 = ((n / 256 : Nat) : Int) := by rw [Int.tdiv_eq_ediv_of_nonneg Zz]; rfl
theorem pow_step (k i : Nat) : k / 2 ^ (8 * i) / 256 = k / 2 ^ (8 * (i + 1)) := by
  rw [Nat.div_div_eq_div_mul, show (256 : Nat) = 2 ^ 8 from rfl, ← Nat.pow_add]; congr 2
theorem kct_tight {lo hi lo' hi' : Nat} {w : World} {A : Option Addr} {n : Nat} {l : List CT} (h : Sl KCt lo hi w A n l) (hT : ∀ k, lo ≤ k → k < hi → lo' ≤ k ∧ k < hi') : Sl KCt lo' hi' w A n l := by
  refine ⟨h.len, h.bound, fun hn => ?_⟩
  obtain ⟨ad, e, a1, a2, a3⟩ := h.at_ hn
  have hb := hT _ a1 a2
  exact ⟨ad, e, hb.1, hb.2, fun j y hy => by
    obtain ⟨cs, hr, hcc⟩ := a3 j y hy
    exact ⟨cs, KCt_flat hr, hcc⟩⟩
theorem pg_kc {lo hi : Nat} {w0 w : World} {TB : Nat → Prop} {x : HH} {p : List CD} (h : (NdPg lo hi w0).R TB w x p) (hTB : ∀ k, TB k → k < w.heap.size) (hk : Keep w0 w) (hhi : hi ≤ w0.heap.size) : x.2.1 ≤ x.2.2 ∧ Sl KC 0 w.heap.size w x.1 x.2.1 p := by
  obtain ⟨h1, L, h2, lo', hi', h3, h4⟩ := h
  have hz := hk.size
  exact ⟨h1, hd_kc (kct_tight h4 fun k a b => ⟨Nat.zero_le _, hTB k (h3 k a b)⟩) ⟨h2.1, fun i y hy => let ⟨q, a, b, c, d, e⟩ := h2.2 i y hy; ⟨q, a, b, c, d, (e.keep hk).wide (Nat.zero_le _) Zz⟩⟩⟩
def PgR (w : World) (A : Option Addr) (n : Nat) (ps : List (List CD)) : Prop := ∃ LP : List HH, Sl KH 0 w.heap.size w A n LP ∧ LP.length = ps.length ∧ ∀ (j : Nat) (x : HH), LP[j]? = some x → ∃ p, ps[j]? = some p ∧ x.2.1 ≤ x.2.2 ∧ Sl KC 0 w.heap.size w x.1 x.2.1 p
theorem nrow_pg {lo hi tb base m' : Nat} {w0 w : World} {S G : Nat → Prop} {v : Value} {L : List HH} {ps : List (List CD)} (h : NRow (NdPg lo hi w0) tb base m' S G w v L ps) (hk : Keep w0 w) (hhi : hi ≤ w0.heap.size) : ∃ A c, v = .slice A ps.length c ∧ ps.length ≤ c ∧ PgR w A ps.length ps := by
  obtain ⟨A, c, e, hc, hs⟩ := h.rd
  refine ⟨A, c, e, hc, L, hs.wide (Nat.zero_le _) h.l1, h.d.1, fun j x hx => ?_⟩
  obtain ⟨p, hp, hR⟩ := h.d.2 j x hx
  exact ⟨p, hp, pg_kc hR (fun k a => (h.g k a).2) hk hhi⟩
theorem Rtail_c (k : Nat) (hkk : k ≤ 1000000000) (w : World) : Ret Tryz.prog 60 #[.int .i64 (k : Int)] w fun r w' => FreshB w w' r (tailB k) := by
 refine X.enter Tryz.func60 rfl Tryz.ntmps60 rfl<|Zs<|Zr<|Zoa rfl rfl<|Ze<|Zs<|Zr<|Zoa rfl rfl<|Ze<|Zs<|Zs<|Zr<|Zoa rfl rfl<|Ze<|Zb<|X.loopL (σ := Nat × Nat × Value) (fun s => [(0, .int .i64 (s.2.1 : Int)), (3, s.2.2), (4, .int .i64 (s.1 : Int))]) (fun s w' => s.1 ≤ 4 ∧ s.2.1 = k / 2 ^ (8 * s.1) ∧ Mine KB 5 (fun q => w.heap.size ≤ q) 0 0 w' s.2.2 ((low4 k).take s.1) ∧ Keep w w') (fun s => 4 - s.1) (0, k, .slice none 0 0) ⟨rfl, rfl, rfl, trivial⟩ ⟨Nat.zero_le _, by simp, Mine.nil _ _ _ _ _ _, (Keep.refl _)⟩ ?_
 rintro ⟨i, n, v⟩ b wo ⟨hi, hn, hM, hk⟩ hback
 dsimp only
 dsimp only at hi hn hM
 have hk0 := hk.size
 refine Zs<|Zs<|Zr<|Zomi rfl rfl<|X.opP X.wN rfl rfl (X.lss rfl rfl) (fun h6 => ?_) (fun h6 => ?_)
 ·have hdk : k / 2 ^ (8 * i) ≤ k := Nat.div_le_self _ _
  rw [← hn] at hdk
  refine Ze<|Zt rfl<|Zk<|Zs<|Zb<|Zs<|Zr<|Zom rfl rfl<|Zomi rfl rfl<|Zo (X.rem rfl rfl (by decide) rfl) rfl<|Zo (X.cvI Zu3 Tryz.underlying5 rfl (rem_u8 _)) rfl<|Zc (X.lit1B Zu43 Tryz.sizeOf5 Tryz.zeroValue5 rfl) rfl ?_
  rintro _ w1 ⟨rfl, hs1, hB1, hk1, hz1⟩
  refine Zc (X.appE (K := KB) (S := fun k => w.heap.size ≤ k) KB_flat Zu43 E5 rfl rfl (hM.keep hk1) hs1 zq15 zq34) rfl ?_
  rintro v2 w2 ⟨hM2, hx2⟩
  have hx2' := hx2.size
  refine Zoa rfl rfl<|Ze<|Zr<|Zomi rfl rfl<|Zo (X.quo (c := ((n / 256 : Nat) : Int)) rfl rfl (by decide) (by rw [quo_256]; exact X.w_i64 (by have := Nat.div_le_self n 256; omega))) rfl ?_
  refine Zoai rfl rfl<|Ze<|Zi<|Zr<|Zomi rfl rfl<|Zo (X.add rfl rfl (X.w_i64 Zz)) rfl<|Zoai rfl rfl<|Ze ?_
  refine hback (i + 1, n / 256, v2) _ _ ⟨rfl, rfl, rfl, trivial⟩ ⟨by omega, by rw [hn, pow_step], by rw [low4_step k i Zz, ← hn]; exact hM2, ((hk.trans hk1).step hx2 zq34)⟩ (by (try dsimp only); omega)
 ·have hi4 : i = 4 := by omega
  subst hi4
  rw [show (low4 k).take 4 = low4 k from rfl] at hM
  refine Ze<|Zf rfl<|Zx rfl<|Zs<|Zr<|Zom rfl rfl ?_
  have q4 := hM.slF KB_flat 0 (fun _ _ => Nat.zero_le _)
  obtain ⟨A4, c4, rfl, hc4, hs4⟩ := q4
  refine Zc (X.callE (RSeal_c _ hs4 (by rw [low4_len]; omega)) Tryz.call59 rfl rfl) rfl ?_
  rintro v3 w3 ⟨hM3, hk3⟩
  have hk3' := hk3.size
  refine Zoa rfl rfl<|Ze<|X.ret1 Tryz.func60 Tryz.results60 rfl ?_
  exact ⟨(hM3).mono (fun q _ h => by have h : _ ≤ q := h; omega), (hk.trans hk3)⟩
theorem flt_take {α β : Type} {ps : List α} {i : Nat} {p : α} (f : α → List β) (h : ps[i]? = some p) : (ps.take (i + 1)).flatMap f = (ps.take i).flatMap f ++ f p := by
  rw [List.take_add_one, h]; simp
theorem flt_le {α β : Type} (f : α → List β) (ps : List α) (i : Nat) : ((ps.take i).flatMap f).length ≤ (ps.flatMap f).length := by
  have h := congrArg (fun z => (z.flatMap f).length) (List.take_append_drop i ps)
  simp only [List.flatMap_append, List.length_append] at h
  omega
theorem RPages_r {lo hi : Nat} {A : Option Addr} {n c : Nat} {l : List CD} (w : World) (hs : Sl KC lo hi w A n l) (hhi : hi ≤ w.heap.size) (hn : n ≤ 4000) (hok : Oks l) : Ret Tryz.prog 22 #[.slice A n c] w fun r w' => ∃ A' c', r = .slice A' (pgs l).length c' ∧ (pgs l).length ≤ c' ∧ PgR w' A' (pgs l).length (pgs l) ∧ Keep w w' :=
  (RPages_c w hs hhi hn hok).mono fun r w' ⟨v, L, m, S, G, e, hN, hk⟩ => let ⟨A', c', e2, hc, hP⟩ := nrow_pg hN hk hhi; ⟨A', c', by rw [e, e2], hc, hP, hk⟩
theorem RBytes_F {lo hi : Nat} {A : Option Addr} {n c : Nat} {l : List CD} (w : World) (hs : Sl KC lo hi w A n l) (hhi : hi ≤ w.heap.size) (hnc : n ≤ c) (hF : Fit l) : Ret Tryz.prog 19 #[.slice A n c] w fun r w' => ∃ v, r = .tuple #[v, .int .i64 (if isR l then 0 else 70)] ∧ FreshB w w' v (if isR l then runB l else []) := by
 obtain ⟨L, hsL, hLl, hLt⟩ := kc_hd hs
 have hsl := hs.len
 have hsb := hs.bound
 subst hsl
 have hok := hF.ok
 have hn := hF.n
 refine X.enter Zf19 rfl Tryz.ntmps19 rfl<|Zs<|Zr<|Zoa rfl rfl<|Zoa rfl rfl<|Ze<|Zs<|Zs<|Zr<|Zoms rfl rfl<|Zc (X.callE (RIs_c _ hs Zz) Tryz.call10 rfl rfl) rfl ?_
 rintro _ w1 ⟨rfl, hk1⟩
 have hk1' := hk1.size
 refine Zo (X.not_ rfl) rfl<|Ze<|X.condB rfl (fun hc13 => ?_) (fun hc13 => ?_)
 ·have hr : isR l = false := by
    cases hq : isR l with
    | false => rfl
    | true => rw [hq] at hc13; exact absurd hc13 (by decide)
  refine Zs<|Zr<|Zoa rfl rfl<|Zoa rfl rfl<|Ze<|X.ret2 (v2 := (.int .i64 _)) Zf19 Tryz.results19 rfl rfl ?_
  rw [hr]
  exact ⟨_, rfl, Mine.nil _ _ _ _ _ _, hk1⟩
 ·have hr : isR l = true := by
    cases hq : isR l with
    | true => rfl
    | false => rw [hq] at hc13; exact absurd hc13 (by decide)
  obtain ⟨z1, z2, z3, z4⟩ := hF.sizes hr
  have z5 := pgs_len l
  have z6 := numB_le (k := (pgs l).length) Zz
  have z7 := numB_le (k := l.length) Zz
  have z3' : (sealC (numB (pgs l).length ++ numB l.length ++ (pgs l).flatMap leafB)).length ≤ 420100 := z3
  have z8 : (tailB (idxB (pgs l) l.length).length).length ≤ 100 := by rw [tailB, seal_len, low4_len]; omega
  refine Zk<|Zs<|Zr<|Zoms rfl rfl<|Zc (X.callE (RPages_r _ (hs.keep hk1) Zz hn hok) Tryz.call22 rfl rfl) rfl ?_
  rintro _ w2 ⟨Ap, cp, rfl, hcp, ⟨LP, hsP, hPl, hPt⟩, hk2⟩
  obtain ⟨wP, hwP⟩ : ∃ wP, wP = w2 := ⟨_, rfl⟩
  subst hwP
  have hkP0 := hk2.size
  have hk2' := hk2.size
  refine Zoa rfl rfl<|Ze<|Zs<|Zr<|Zoa rfl rfl<|Ze<|Zs<|Zr<|Zom rfl rfl<|Zo (X.lenSl Zu48 rfl) rfl<|Zo (X.cvI Zu3 Zu119 rfl (X.w_u64 Zz)) rfl<|Zc (X.callE (RNumN_c _ Zz _) Zc55 rfl rfl) rfl ?_
  rintro v3 w3 ⟨hM3, hk3⟩
  have hk3' := hk3.size
  refine Zoms rfl rfl<|Zo (X.lenSl Zu22 rfl) rfl<|Zo (X.cvI Zu3 Zu119 rfl (X.w_u64 Zz)) rfl<|Zc (X.callE (RNumN_c _ Zz _) Zc55 rfl rfl) rfl ?_
  rintro v4 w4 ⟨hM4, hk4⟩
  have hk4' := hk4.size
  have q6 := hM4.slF KB_flat 0 (fun _ _ => Nat.zero_le _)
  obtain ⟨A6, c6, rfl, hc6, hs6⟩ := q6
  refine Zc (X.appE (K := KB) (S := fun k => wP.heap.size ≤ k) KB_flat Zu43 E5 rfl rfl (((hM3.keep hk4)).mono (fun k _ h => by have h : _ ≤ k := h; show _ ≤ k; omega)) hs6 Zz (fun k h => by show _ ≤ k; omega)) rfl ?_
  rintro v24 w5 ⟨hM24, hx5⟩
  have hx5' := hx5.size
  refine Zoa rfl rfl<|Ze<|Zs<|Zs<|Zr<|Zoa rfl rfl<|Ze<|Zb ?_
  have hKP := (hk1.trans hk2)
  have hkT := ((((Keep.refl wP).trans hk3).trans hk4).step hx5 (by intro q g1; have g1 : _ ≤ q := g1; omega))
  have hR0 : R2 5 wP.heap.size w5.heap.size w5.heap.size (fun _ => False) (fun k => wP.heap.size ≤ k ∧ k < w5.heap.size) w5 (.slice none 0 0) v24 [] (numB (pgs l).length ++ numB l.length) := ⟨Mine.nil _ _ _ _ _ _, hM24.mono (fun k a b => ⟨b, a⟩), fun _ h => h.elim, fun k h => h, Nat.le_refl _, Nat.le_refl _, fun _ h => h.elim, by omega⟩
  refine X.loopL (σ := Nat × Value × Value) (fun s => [(4, .slice Ap (pgs l).length cp), (5, s.2.1), (6, s.2.2), (7, .int .i64 (s.1 : Int))]) (fun s w' => s.1 ≤ (pgs l).length ∧ Keep wP w' ∧ ∃ S1 S2, R2 5 wP.heap.size w'.heap.size w'.heap.size S1 S2 w' s.2.1 s.2.2 (((pgs l).take s.1).flatMap pageB) ((numB (pgs l).length ++ numB l.length) ++ ((pgs l).take s.1).flatMap leafB)) (fun s => (pgs l).length - s.1) (0, .slice none 0 0, v24) ⟨rfl, rfl, rfl, rfl, trivial⟩ ⟨Nat.zero_le _, hkT, _, _, by simpa using hR0⟩ ?_
  rintro ⟨i, va, vb⟩ b wo ⟨hi, hkL, S1, S2, hR⟩ hback
  dsimp only
  dsimp only at hi hR
  have hkL0 := hkL.size
  have hf1 := flt_le pageB (pgs l) i
  have hf2 := flt_le leafB (pgs l) i
  refine Zs<|Zs<|Zr<|Zomi rfl rfl<|Zoms rfl rfl<|Zo (X.lenSl Zu48 rfl) rfl<|X.opP X.wN rfl rfl (X.lss rfl rfl) (fun h28 => ?_) (fun h28 => ?_)
  ·obtain ⟨x, hx⟩ : ∃ x, LP[i]? = some x := ⟨_, List.getElem?_eq_getElem Zz⟩
   obtain ⟨p, hp, hxc, hsp⟩ := hPt _ _ hx
   have hpm := List.mem_of_getElem? hp
   have hokp : Oks p := hok.sub (pgs_sub hpm)
   have hpe := (hF.page hpm).2.2
   have hpn := pgs_plen hpm
   have hxl := hsp.len
   obtain ⟨q0, hq0, hh0⟩ := head_at (pgs_ne hpm)
   have hp0 := (List.getElem?_eq_some_iff.1 hq0).1
   obtain ⟨Lx, hsx, hLxl, hLxt⟩ := kc_hd hsp
   obtain ⟨x0, hx0⟩ : ∃ x0, Lx[0]? = some x0 := ⟨_, List.getElem?_eq_getElem Zz⟩
   obtain ⟨q1, hq1, _, _, _, ht0⟩ := hLxt _ _ hx0
   rw [hq0] at hq1
   cases hq1
   have hf3 := flt_le leafB (pgs l) (i + 1)
   rw [flt_take leafB hp, List.length_append, leafB, List.length_append, hh0] at hf3
   have hqT := isR_T' hr q0 (pgs_sub hpm q0 (List.mem_of_getElem? hq0))
   have hqk := (tup_le (hokp q0 (List.mem_of_getElem? hq0)).2 hqT.1).2
   have hpb := pageB_fit (p := p) Zz hpe
   have hn1 := numB_le (k := (pageB p).length) Zz
   have hn2 := textB_len (l := keyB q0.1) Zz
   have hkT : (if isT q0.1 = true then keyB q0.1 else []) = keyB q0.1 := if_pos hqT.1
   have hf4 := flt_le pageB (pgs l) (i + 1)
   rw [flt_take pageB hp, List.length_append] at hf4
   refine Ze<|Zt rfl<|Zk<|Zs<|Zb<|Zs<|Zr<|Zoms rfl rfl<|Zomi rfl rfl<|Zo (X.idxS (hsP.keep hkL) Zu48 Zs22 rfl rfl ⟨by omega, by omega⟩) rfl<|Zo (X.loadS Zi22 (hsP.keep hkL) hx rfl (fun _ h => by rw [h.1]; rfl)) rfl ?_
   refine Zc (X.callE (RpageBytes_c _ (hsp.keep hkL) Zz Zz hpe hokp hxc) Tryz.call56 rfl rfl) rfl ?_
   rintro v7 w7 ⟨hM7, hk7⟩
   have hk7' := hk7.size
   refine Zoa rfl rfl<|Ze<|Zs<|Zr<|Zom rfl rfl<|Zom rfl rfl ?_
   have q9 := hM7.slF KB_flat 0 (fun _ _ => Nat.zero_le _)
   obtain ⟨A9, c9, rfl, hc9, hs9⟩ := q9
   refine Zc (R2.appA (hR.keep hk7) hs9 Zu43 E5 rfl rfl (by first | omega | (simp only [List.length_append, List.length_nil]; omega))) rfl ?_
   rintro _ w8 ⟨Aq8, cq8, S8, rfl, hR8, hx8⟩
   have hx8' := hx8.size
   refine Zoa rfl rfl<|Ze<|Zs<|Zr<|Zoms rfl rfl<|Zomi rfl rfl<|Zo (X.idxS (hsP.keep ((hkL.trans hk7).step hx8 zq34)) Zu48 Zs22 rfl rfl ⟨by omega, by omega⟩) rfl ?_
   refine Zo (X.loadS Zi22 (hsP.keep ((hkL.trans hk7).step hx8 zq34)) hx rfl (fun _ h => by rw [h.1]; rfl)) rfl ?_
   refine Zo (X.idxS (hsx.keep ((hkL.trans hk7).step hx8 zq34)) Zu22 Zs40 rfl rfl ⟨by omega, by omega⟩) rfl ?_
   refine Zo (X.fldA Zu40 rfl rfl Zs38) rfl<|Zo (X.loadSf (o := 0) Zi38 (hsx.keep ((hkL.trans hk7).step hx8 zq34)) (j := 0) hx0 rfl (fun _ h => by rw [h.1]; rfl)) rfl ?_
   refine Zc (X.callE (RKey_c _ (ht0.keep ((hkL.trans hk7).step hx8 zq34)) Zz) Tryz.call57 rfl rfl) rfl ?_
   rintro _ w10 ⟨v10, rfl, hM10, hk10⟩
   rw [hkT] at hM10
   have hk10' := hk10.size
   refine Zom rfl rfl<|Zo (X.extr rfl rfl) rfl<|Zo (X.extr rfl rfl) rfl<|Zoa rfl rfl<|Zoai rfl rfl<|Ze<|Zr<|Zom rfl rfl<|Zom rfl rfl<|Zo (X.lenSl Zu43 rfl) rfl<|Zo (X.cvI Zu3 Zu119 rfl (X.w_u64 Zz)) rfl<|Zc (X.callE (RNumN_c _ Zz _) Zc55 rfl rfl) rfl ?_
   rintro v11 w11 ⟨hM11, hk11⟩
   have hk11' := hk11.size
   have q13 := hM11.slF KB_flat 0 (fun _ _ => Nat.zero_le _)
   obtain ⟨A13, c13, rfl, hc13, hs13⟩ := q13
   refine Zc (R2.appB (hR8.keep (hk10.trans hk11)) hs13 Zu43 E5 rfl rfl (by first | omega | (simp only [List.length_append, List.length_nil]; omega))) rfl ?_
   rintro _ w12 ⟨Aq12, cq12, S12, rfl, hR12, hx12⟩
   have hx12' := hx12.size
   refine Zom rfl rfl ?_
   have q15 := ((hM10.keep hk11).ext hx12 zq36 zq36).slF KB_flat 0 (fun _ _ => Nat.zero_le _)
   obtain ⟨A15, c15, rfl, hc15, hs15⟩ := q15
   refine Zc (X.callE (RText_c _ hs15 Zz) Tryz.call58 rfl rfl) rfl ?_
   rintro v14 w14 ⟨hM14, hk14⟩
   have hk14' := hk14.size
   have q17 := hM14.slF KB_flat 0 (fun _ _ => Nat.zero_le _)
   obtain ⟨A17, c17, rfl, hc17, hs17⟩ := q17
   refine Zc (R2.appB (hR12.keep hk14) hs17 Zu43 E5 rfl rfl (by first | omega | (simp only [List.length_append, List.length_nil]; omega))) rfl ?_
   rintro _ w16 ⟨Aq16, cq16, S16, rfl, hR16, hx16⟩
   have hx16' := hx16.size
   refine Zoa rfl rfl<|Ze<|Zi<|Zr<|Zomi rfl rfl<|Zo (X.add rfl rfl (X.w_i64 Zz)) rfl<|Zoai rfl rfl<|Ze ?_
   refine hback (i + 1, _, _) _ _ ⟨rfl, rfl, rfl, rfl, trivial⟩ ⟨by omega, (((((((hkL.trans hk7).step hx8 (by intro q g1; first | (have g1 : _ ≤ q ∧ _ := g1; omega) | (have g1 : _ ≤ q := g1; omega))).trans hk10).trans hk11).step hx12 (by intro q g1; first | (have g1 : _ ≤ q ∧ _ := g1; omega) | (have g1 : _ ≤ q := g1; omega))).trans hk14).step hx16 (by intro q g1; first | (have g1 : _ ≤ q ∧ _ := g1; omega) | (have g1 : _ ≤ q := g1; omega))), _, _, by have hRn := (hR16).all; rw [flt_take pageB hp, flt_take leafB hp, leafB, hh0]; simp only [List.append_assoc] at hRn ⊢; exact hRn⟩ (by (try dsimp only); omega)
  ·have hil : i = (pgs l).length := by omega
   subst hil
   rw [List.take_length] at hR hf1 hf2
   obtain ⟨Ar1, cr1, Ar2, cr2, rfl, rfl, hcr1, hcr2, hsr1, hsr2⟩ := hR.rd
   refine Ze<|Zf rfl<|Zx rfl<|Zs<|Zr<|Zoms rfl rfl<|Zc (X.callE (RSeal_c _ hsr2 (by simp only [List.length_append]; omega)) Tryz.call59 rfl rfl) rfl ?_
   rintro v18 w18 ⟨hM18, hk18⟩
   have hk18' := hk18.size
   refine Zoa rfl rfl<|Ze<|Zs<|Zr<|Zom rfl rfl<|Zom rfl rfl ?_
   have q20 := hM18.slF KB_flat 0 (fun _ _ => Nat.zero_le _)
   obtain ⟨A20, c20, rfl, hc20, hs20⟩ := q20
   refine Zc (R2.appA (hR.keep hk18) hs20 Zu43 E5 rfl rfl (by first | omega | (simp only [List.length_append, List.length_nil]; omega))) rfl ?_
   rintro _ w19 ⟨Aq19, cq19, S19, rfl, hR19, hx19⟩
   have hx19' := hx19.size
   refine Zom rfl rfl<|Zo (X.lenSl Zu43 rfl) rfl<|Zc (X.callE (Rtail_c (idxB (pgs l) l.length).length Zz _) Tryz.call60 rfl rfl) rfl ?_
   rintro v21 w21 ⟨hM21, hk21⟩
   have hk21' := hk21.size
   have q23 := hM21.slF KB_flat 0 (fun _ _ => Nat.zero_le _)
   obtain ⟨A23, c23, rfl, hc23, hs23⟩ := q23
   refine Zc (R2.appA (hR19.keep hk21) hs23 Zu43 E5 rfl rfl (by first | omega | (simp only [List.length_append, List.length_nil]; omega))) rfl ?_
   rintro _ w22 ⟨Aq22, cq22, S22, rfl, hR22, hx22⟩
   have hx22' := hx22.size
   refine Zoa rfl rfl<|Zoa rfl rfl<|Ze<|X.ret2 (v2 := (.int .i64 _)) Zf19 Tryz.results19 rfl rfl ?_
   have hRf := hR22
   rw [hr]
   exact ⟨_, rfl, (hRf.a.mono fun k _ hk => by have := hRf.s1 k hk; show _ ≤ k; omega), hKP.trans ((((hkL.trans hk18).step hx19 (by intro q g1; first | (have g1 : _ ≤ q ∧ _ := g1; omega) | (have g1 : _ ≤ q := g1; omega))).trans hk21).step hx22 (by intro q g1; first | (have g1 : _ ≤ q ∧ _ := g1; omega) | (have g1 : _ ≤ q := g1; omega)))⟩
theorem RBytes_c {lo hi : Nat} {A : Option Addr} {n c : Nat} {l : List CD} (w : World) (hs : Sl KC lo hi w A n l) (hhi : hi ≤ w.heap.size) (hnc : n ≤ c) (hn : n ≤ 100) (hok : Oks l) : Ret Tryz.prog 19 #[.slice A n c] w fun r w' => ∃ v, r = .tuple #[v, .int .i64 (if isR l then 0 else 70)] ∧ FreshB w w' v (if isR l then runB l else []) := RBytes_F w hs hhi hnc (Fit.of hok (by rw [hs.len]; exact hn))
theorem HdC.back {lo hi : Nat} {w w' : World} {L : List CT} {p : List CD} {U : Nat → Prop} (h : HdC lo hi w' L p) (x : Ext U w w') (hU : ∀ k, lo ≤ k → k < hi → ¬ U k) (hhi : hi ≤ w.heap.size) : HdC lo hi w L p :=
  ⟨h.1, fun i y hy => let ⟨q, a, b, c, d, e⟩ := h.2 i y hy; ⟨q, a, b, c, d, e.move fun k h1 h2 _ => (x.keep k Zz (hU k h1 h2)).symm⟩⟩
theorem nrow_cts {tb base m : Nat} {S G : Nat → Prop} {w : World} {v : Value} {L : List CT} {l : List CD} (h : NRow NdCt tb base m S G w v L l) : ∃ A c, v = .slice A l.length c ∧ l.length ≤ c ∧ Sl KCt base w.heap.size w A l.length L ∧ NdCt.All (fun k => base ≤ k ∧ k < w.heap.size) w L l := by
  obtain ⟨A', c', e, hc, hs⟩ := h.rd
  exact ⟨A', c', e, hc, hs.wide (Nat.le_refl _) h.l1, h.d.mono fun k hk => h.g k hk⟩
end Go.Proofs.YtbljooblpfdbiaaGreatDoor
