/- Texts that the proof of DiskFixed stands on, part 12. -/
import Derived.Test.YtcdebnppbnmmgaaProg
import Derived.Test.YtcdebnppbnmmgaaBunDiskFixed11

namespace Go.Proofs.Ytcdebnppbnmmgaa
open Go Go.Proofs.Ytcdebnppbnmmgaa.X
set_option linter.unusedVariables false
set_option linter.unusedSimpArgs false
abbrev ptrV (b : Nat) : Value := .pointer (some ⟨b, 0, none⟩)
/-- A disk's cells. -/
abbrev dkL (rm : Int) (bf : Option Nat) (mk : Int) (bd bx : Option Nat) (A : Option Addr) (n c : Nat) (bl : Option Nat) (fu : Bool) (lf : Int) : List Value := [.int .i64 rm, .map bf, .int .i64 mk, .map bd, .map bx, .slice A n c, .map bl, .bool fu, .int .i64 lf]
/-- No disk, or an empty struct of one. -/
def Nob (w : World) (p : Option Addr) : Prop := p = none ∨ ∃ b, p = some ⟨b, 0, none⟩ ∧ Blk w b (dkL 0 none 0 none none none 0 0 none false 0) 60
theorem Nob.keep {w w' : World} {p : Option Addr} (h : Nob w p) (k : Keep w w') : Nob w' p := h.imp id fun ⟨b, e, h⟩ => ⟨b, e, h.keep k⟩
-- f36 "(*pedigree/disk.Disk).is" params [26] results [4] -> [(ResultVar.tmp 2)] nfree 0 ntmps 12 names ["d", 
set_option maxHeartbeats 4000000 in
set_option maxRecDepth 100000 in
theorem is_c {b : Nat} {rm mk lf : Int} {bf bx bl : Option Nat} {bd : Nat} {A : Option Addr} {n c : Nat} {fu : Bool} (w : World) (hB : Blk w b (dkL rm bf mk (some bd) bx A n c bl fu lf) 60) : Ret Try.prog 36 #[ptrV b] w fun r w' => r = .bool true ∧ Keep w w' := by
  refine X.enter Try.func36 rfl Try.ntmps36 rfl ?_
  refine X.seq ?_
  refine X.region ?_
  refine X.opw X.wN rfl (X.assign rfl) ?_
  refine X.opsEnd ?_
  refine X.seq ?_
  refine X.region ?_
  refine X.opw X.wN rfl (X.move rfl) ?_
  refine X.opw X.wN rfl (X.nePtrN (A := some _) Try.underlying26 rfl rfl) ?_
  refine X.opw X.wN rfl (X.move (v := .bool true) rfl) ?_
  refine X.opw (X.wG rfl rfl rfl) rfl (X.move rfl) ?_
  refine X.opw (X.wG rfl rfl rfl) rfl (X.nilCk rfl) ?_
  refine X.opw (X.wG rfl rfl rfl) rfl (X.fldB (j := 3) Try.underlying60 rfl rfl Try.sizeOf56 rfl) ?_
  refine X.opw (X.wG rfl rfl rfl) rfl (X.load1B Try.isAgg56 hB rfl rfl) ?_
  refine X.opw (X.wG rfl rfl rfl) rfl (X.neMap1 Try.underlying56 rfl rfl) ?_
  refine X.opw X.wN rfl (X.pickT (v := .bool true) rfl rfl) ?_
  refine X.opw X.wN rfl (X.assign (v := .bool true) rfl) ?_
  refine X.opsEnd ?_
  refine X.ret1 (v := (.bool _)) Try.func36 Try.results36 rfl ?_
  exact ⟨rfl, (Keep.refl _)⟩
-- f36 "(*pedigree/disk.Disk).is" params [26] results [4] -> [(ResultVar.tmp 2)] nfree 0 ntmps 12 names ["d", 
set_option maxHeartbeats 4000000 in
set_option maxRecDepth 100000 in
theorem is0_c (w : World) : Ret Try.prog 36 #[.pointer none] w fun r w' => r = .bool false ∧ Keep w w' := by
  refine X.enter Try.func36 rfl Try.ntmps36 rfl ?_
  refine X.seq ?_
  refine X.region ?_
  refine X.opw X.wN rfl (X.assign rfl) ?_
  refine X.opsEnd ?_
  refine X.seq ?_
  refine X.region ?_
  refine X.opw X.wN rfl (X.move rfl) ?_
  refine X.opw X.wN rfl (X.nePtrN (A := none) Try.underlying26 rfl rfl) ?_
  refine X.opw X.wN rfl (X.move (v := .bool false) rfl) ?_
  refine X.opS rfl rfl rfl rfl rfl ?_
  refine X.opS rfl rfl rfl rfl rfl ?_
  refine X.opS rfl rfl rfl rfl rfl ?_
  refine X.opS rfl rfl rfl rfl rfl ?_
  refine X.opS rfl rfl rfl rfl rfl ?_
  refine X.opw X.wN rfl (X.pickF (v := .bool false) rfl rfl) ?_
  refine X.opw X.wN rfl (X.assign (v := .bool false) rfl) ?_
  refine X.opsEnd ?_
  refine X.ret1 (v := (.bool _)) Try.func36 Try.results36 rfl ?_
  exact ⟨rfl, (Keep.refl _)⟩
-- f36 "(*pedigree/disk.Disk).is" params [26] results [4] -> [(ResultVar.tmp 2)] nfree 0 ntmps 12 names ["d", 
set_option maxHeartbeats 4000000 in
set_option maxRecDepth 100000 in
theorem isz_c {b : Nat} (w : World) (hB : Blk w b (dkL 0 none 0 none none none 0 0 none false 0) 60) : Ret Try.prog 36 #[ptrV b] w fun r w' => r = .bool false ∧ Keep w w' := by
  refine X.enter Try.func36 rfl Try.ntmps36 rfl ?_
  refine X.seq ?_
  refine X.region ?_
  refine X.opw X.wN rfl (X.assign rfl) ?_
  refine X.opsEnd ?_
  refine X.seq ?_
  refine X.region ?_
  refine X.opw X.wN rfl (X.move rfl) ?_
  refine X.opw X.wN rfl (X.nePtrN (A := some _) Try.underlying26 rfl rfl) ?_
  refine X.opw X.wN rfl (X.move (v := .bool true) rfl) ?_
  refine X.opw (X.wG rfl rfl rfl) rfl (X.move rfl) ?_
  refine X.opw (X.wG rfl rfl rfl) rfl (X.nilCk rfl) ?_
  refine X.opw (X.wG rfl rfl rfl) rfl (X.fldB (j := 3) Try.underlying60 rfl rfl Try.sizeOf56 rfl) ?_
  refine X.opw (X.wG rfl rfl rfl) rfl (X.load1B Try.isAgg56 hB rfl rfl) ?_
  refine X.opw (X.wG rfl rfl rfl) rfl (X.neMap0 Try.underlying56 rfl rfl) ?_
  refine X.opw X.wN rfl (X.pickT (v := .bool false) rfl rfl) ?_
  refine X.opw X.wN rfl (X.assign (v := .bool false) rfl) ?_
  refine X.opsEnd ?_
  refine X.ret1 (v := (.bool _)) Try.func36 Try.results36 rfl ?_
  exact ⟨rfl, (Keep.refl _)⟩
theorem is_n (p : Option Addr) (w : World) (h : Nob w p) : Ret Try.prog 36 #[.pointer p] w fun r w' => r = .bool false ∧ Keep w w' := by
  rcases h with rfl | ⟨b, rfl, hB⟩
  · exact is0_c w
  · exact isz_c w hB
-- f24 "(*pedigree/disk.Disk).Down" params [26] results [4] -> [(ResultVar.tmp 2)] nfree 0 ntmps 18 names ["d"
set_option maxHeartbeats 4000000 in
set_option maxRecDepth 100000 in
theorem Down_n  (p : Option Addr) (w : World) (h : Nob w p) : Ret Try.prog 24 #[.pointer p] w fun r w' => r = .bool false ∧ Keep w w' := by
  refine X.enter Try.func24 rfl Try.ntmps24 rfl ?_
  refine X.seq ?_
  refine X.region ?_
  refine X.opw X.wN rfl (X.assign rfl) ?_
  refine X.opsEnd ?_
  refine X.seq ?_
  refine X.region ?_
  refine X.opw X.wN rfl (X.move rfl) ?_
  refine X.opE X.wN rfl (X.callE (is_n p _ h) Try.call36 rfl rfl) ?_
  rintro _ w1 ⟨rfl, hk1⟩
  have hk1' := hk1.size
  refine X.opw X.wN rfl (X.move (v := .bool false) rfl) ?_
  refine X.opS rfl rfl rfl rfl rfl ?_
  refine X.opS rfl rfl rfl rfl rfl ?_
  refine X.opS rfl rfl rfl rfl rfl ?_
  refine X.opS rfl rfl rfl rfl rfl ?_
  refine X.opw X.wN rfl (X.pickF (v := .bool false) rfl rfl) ?_
  refine X.opw X.wN rfl (X.move (v := .bool false) rfl) ?_
  refine X.opS rfl rfl rfl rfl rfl ?_
  refine X.opS rfl rfl rfl rfl rfl ?_
  refine X.opS rfl rfl rfl rfl rfl ?_
  refine X.opS rfl rfl rfl rfl rfl ?_
  refine X.opS rfl rfl rfl rfl rfl ?_
  refine X.opw X.wN rfl (X.pickF (v := .bool false) rfl rfl) ?_
  refine X.opw X.wN rfl (X.assign (v := .bool false) rfl) ?_
  refine X.opsEnd ?_
  refine X.ret1 (v := (.bool _)) Try.func24 Try.results24 rfl ?_
  exact ⟨rfl, hk1⟩
-- f25 "(*pedigree/disk.Disk).may" params [26] results [27] -> [(ResultVar.tmp 2)] nfree 0 ntmps 10 names ["d"
set_option maxHeartbeats 4000000 in
set_option maxRecDepth 100000 in
theorem may_n  (p : Option Addr) (w : World) (h : Nob w p) : Ret Try.prog 25 #[.pointer p] w fun r w' => r = .int .i64 4 ∧ Keep w w' := by
  refine X.enter Try.func25 rfl Try.ntmps25 rfl ?_
  refine X.seq ?_
  refine X.region ?_
  refine X.opw X.wN rfl (X.assign rfl) ?_
  refine X.opsEnd ?_
  refine X.seq ?_
  refine X.block ?_
  refine X.seq ?_
  refine X.region ?_
  refine X.opw X.wN rfl (X.move rfl) ?_
  refine X.opE X.wN rfl (X.callE (is_n p _ h) Try.call36 rfl rfl) ?_
  rintro _ w1 ⟨rfl, hk1⟩
  have hk1' := hk1.size
  refine X.opw X.wN rfl (X.not_ rfl) ?_
  refine X.opw X.wN rfl (X.assign (v := .bool true) rfl) ?_
  refine X.opsEnd ?_
  refine X.condT rfl ?_
  refine X.seq ?_
  refine X.region ?_
  refine X.opw X.wN rfl (X.assign rfl) ?_
  refine X.opsEnd ?_
  refine X.ret1 (v := (.int .i64 _)) Try.func25 Try.results25 rfl ?_
  exact ⟨rfl, hk1⟩
-- f7 "(*pedigree/disk.Disk).Create" params [26, 9] results [27] -> [(ResultVar.tmp 4)] nfree 0 ntmps 59 names
set_option maxHeartbeats 4000000 in
set_option maxRecDepth 100000 in
theorem Create_n (nm : ByteArray) (p : Option Addr) (w : World) (h : Nob w p) : Ret Try.prog 7 #[.pointer p, .string nm] w fun r w' => r = .int .i64 4 ∧ Keep w w' := by
  refine X.enter Try.func7 rfl Try.ntmps7 rfl ?_
  refine X.seq ?_
  refine X.region ?_
  refine X.opw X.wN rfl (X.assign rfl) ?_
  refine X.opsEnd ?_
  refine X.seq ?_
  refine X.seq ?_
  refine X.region ?_
  refine X.opw X.wN rfl (X.move rfl) ?_
  refine X.opE X.wN rfl (X.callE (may_n p _ h) Try.call25 rfl rfl) ?_
  rintro _ w1 ⟨rfl, hk1⟩
  have hk1' := hk1.size
  refine X.opw X.wN rfl (X.assign (v := .int .i64 _) rfl) ?_
  refine X.opsEnd ?_
  refine X.seq ?_
  refine X.region ?_
  refine X.opw X.wN rfl (X.move (v := .int .i64 _) rfl) ?_
  refine X.opw X.wN rfl (X.neI rfl rfl) ?_
  refine X.opsEnd ?_
  refine X.condT rfl ?_
  refine X.seq ?_
  refine X.region ?_
  refine X.opw X.wN rfl (X.move (v := .int .i64 _) rfl) ?_
  refine X.opw X.wN rfl (X.assign (v := .int .i64 _) rfl) ?_
  refine X.opsEnd ?_
  refine X.ret1 (v := (.int .i64 _)) Try.func7 Try.results7 rfl ?_
  exact ⟨rfl, hk1⟩
-- f8 "(*pedigree/disk.Disk).Write" params [26, 9, 3, 22] results [27] -> [(ResultVar.tmp 8)] nfree 0 ntmps 12
set_option maxHeartbeats 4000000 in
set_option maxRecDepth 100000 in
theorem Write_n (nm : ByteArray) (at_ : Int) (v : Value) (p : Option Addr) (w : World) (h : Nob w p) : Ret Try.prog 8 #[.pointer p, .string nm, .int .i64 at_, v] w fun r w' => r = .int .i64 4 ∧ Keep w w' := by
  refine X.enter Try.func8 rfl Try.ntmps8 rfl ?_
  refine X.seq ?_
  refine X.region ?_
  refine X.opw X.wN rfl (X.assign rfl) ?_
  refine X.opsEnd ?_
  refine X.seq ?_
  refine X.seq ?_
  refine X.region ?_
  refine X.opw X.wN rfl (X.move rfl) ?_
  refine X.opE X.wN rfl (X.callE (may_n p _ h) Try.call25 rfl rfl) ?_
  rintro _ w1 ⟨rfl, hk1⟩
  have hk1' := hk1.size
  refine X.opw X.wN rfl (X.assign (v := .int .i64 _) rfl) ?_
  refine X.opsEnd ?_
  refine X.seq ?_
  refine X.region ?_
  refine X.opw X.wN rfl (X.move (v := .int .i64 _) rfl) ?_
  refine X.opw X.wN rfl (X.neI rfl rfl) ?_
  refine X.opsEnd ?_
  refine X.condT rfl ?_
  refine X.seq ?_
  refine X.region ?_
  refine X.opw X.wN rfl (X.move (v := .int .i64 _) rfl) ?_
  refine X.opw X.wN rfl (X.assign (v := .int .i64 _) rfl) ?_
  refine X.opsEnd ?_
  refine X.ret1 (v := (.int .i64 _)) Try.func8 Try.results8 rfl ?_
  exact ⟨rfl, hk1⟩
-- f9 "(*pedigree/disk.Disk).Sync" params [26, 9] results [27] -> [(ResultVar.tmp 4)] nfree 0 ntmps 39 names [
set_option maxHeartbeats 4000000 in
set_option maxRecDepth 100000 in
theorem Sync_n (nm : ByteArray) (p : Option Addr) (w : World) (h : Nob w p) : Ret Try.prog 9 #[.pointer p, .string nm] w fun r w' => r = .int .i64 4 ∧ Keep w w' := by
  refine X.enter Try.func9 rfl Try.ntmps9 rfl ?_
  refine X.seq ?_
  refine X.region ?_
  refine X.opw X.wN rfl (X.assign rfl) ?_
  refine X.opsEnd ?_
  refine X.seq ?_
  refine X.seq ?_
  refine X.region ?_
  refine X.opw X.wN rfl (X.move rfl) ?_
  refine X.opE X.wN rfl (X.callE (may_n p _ h) Try.call25 rfl rfl) ?_
  rintro _ w1 ⟨rfl, hk1⟩
  have hk1' := hk1.size
  refine X.opw X.wN rfl (X.assign (v := .int .i64 _) rfl) ?_
  refine X.opsEnd ?_
  refine X.seq ?_
  refine X.region ?_
  refine X.opw X.wN rfl (X.move (v := .int .i64 _) rfl) ?_
  refine X.opw X.wN rfl (X.neI rfl rfl) ?_
  refine X.opsEnd ?_
  refine X.condT rfl ?_
  refine X.seq ?_
  refine X.region ?_
  refine X.opw X.wN rfl (X.move (v := .int .i64 _) rfl) ?_
  refine X.opw X.wN rfl (X.assign (v := .int .i64 _) rfl) ?_
  refine X.opsEnd ?_
  refine X.ret1 (v := (.int .i64 _)) Try.func9 Try.results9 rfl ?_
  exact ⟨rfl, hk1⟩
-- f17 "(*pedigree/disk.Disk).Rename" params [26, 9, 9] results [27] -> [(ResultVar.tmp 6)] nfree 0 ntmps 42 n
set_option maxHeartbeats 4000000 in
set_option maxRecDepth 100000 in
theorem Rename_n (nm to : ByteArray) (p : Option Addr) (w : World) (h : Nob w p) : Ret Try.prog 17 #[.pointer p, .string nm, .string to] w fun r w' => r = .int .i64 4 ∧ Keep w w' := by
  refine X.enter Try.func17 rfl Try.ntmps17 rfl ?_
  refine X.seq ?_
  refine X.region ?_
  refine X.opw X.wN rfl (X.assign rfl) ?_
  refine X.opsEnd ?_
  refine X.seq ?_
  refine X.seq ?_
  refine X.region ?_
  refine X.opw X.wN rfl (X.move rfl) ?_
  refine X.opE X.wN rfl (X.callE (may_n p _ h) Try.call25 rfl rfl) ?_
  rintro _ w1 ⟨rfl, hk1⟩
  have hk1' := hk1.size
  refine X.opw X.wN rfl (X.assign (v := .int .i64 _) rfl) ?_
  refine X.opsEnd ?_
  refine X.seq ?_
  refine X.region ?_
  refine X.opw X.wN rfl (X.move (v := .int .i64 _) rfl) ?_
  refine X.opw X.wN rfl (X.neI rfl rfl) ?_
  refine X.opsEnd ?_
  refine X.condT rfl ?_
  refine X.seq ?_
  refine X.region ?_
  refine X.opw X.wN rfl (X.move (v := .int .i64 _) rfl) ?_
  refine X.opw X.wN rfl (X.assign (v := .int .i64 _) rfl) ?_
  refine X.opsEnd ?_
  refine X.ret1 (v := (.int .i64 _)) Try.func17 Try.results17 rfl ?_
  exact ⟨rfl, hk1⟩
-- f18 "(*pedigree/disk.Disk).Delete" params [26, 9] results [27] -> [(ResultVar.tmp 4)] nfree 0 ntmps 29 name
set_option maxHeartbeats 4000000 in
set_option maxRecDepth 100000 in
theorem Delete_n (nm : ByteArray) (p : Option Addr) (w : World) (h : Nob w p) : Ret Try.prog 18 #[.pointer p, .string nm] w fun r w' => r = .int .i64 4 ∧ Keep w w' := by
  refine X.enter Try.func18 rfl Try.ntmps18 rfl ?_
  refine X.seq ?_
  refine X.region ?_
  refine X.opw X.wN rfl (X.assign rfl) ?_
  refine X.opsEnd ?_
  refine X.seq ?_
  refine X.seq ?_
  refine X.region ?_
  refine X.opw X.wN rfl (X.move rfl) ?_
  refine X.opE X.wN rfl (X.callE (may_n p _ h) Try.call25 rfl rfl) ?_
  rintro _ w1 ⟨rfl, hk1⟩
  have hk1' := hk1.size
  refine X.opw X.wN rfl (X.assign (v := .int .i64 _) rfl) ?_
  refine X.opsEnd ?_
  refine X.seq ?_
  refine X.region ?_
  refine X.opw X.wN rfl (X.move (v := .int .i64 _) rfl) ?_
  refine X.opw X.wN rfl (X.neI rfl rfl) ?_
  refine X.opsEnd ?_
  refine X.condT rfl ?_
  refine X.seq ?_
  refine X.region ?_
  refine X.opw X.wN rfl (X.move (v := .int .i64 _) rfl) ?_
  refine X.opw X.wN rfl (X.assign (v := .int .i64 _) rfl) ?_
  refine X.opsEnd ?_
  refine X.ret1 (v := (.int .i64 _)) Try.func18 Try.results18 rfl ?_
  exact ⟨rfl, hk1⟩
-- f10 "(*pedigree/disk.Disk).SyncDir" params [26] results [27] -> [(ResultVar.tmp 2)] nfree 0 ntmps 22 names 
set_option maxHeartbeats 4000000 in
set_option maxRecDepth 100000 in
theorem SyncDir_n  (p : Option Addr) (w : World) (h : Nob w p) : Ret Try.prog 10 #[.pointer p] w fun r w' => r = .int .i64 4 ∧ Keep w w' := by
  refine X.enter Try.func10 rfl Try.ntmps10 rfl ?_
  refine X.seq ?_
  refine X.region ?_
  refine X.opw X.wN rfl (X.assign rfl) ?_
  refine X.opsEnd ?_
  refine X.seq ?_
  refine X.seq ?_
  refine X.region ?_
  refine X.opw X.wN rfl (X.move rfl) ?_
  refine X.opE X.wN rfl (X.callE (may_n p _ h) Try.call25 rfl rfl) ?_
  rintro _ w1 ⟨rfl, hk1⟩
  have hk1' := hk1.size
  refine X.opw X.wN rfl (X.assign (v := .int .i64 _) rfl) ?_
  refine X.opsEnd ?_
  refine X.seq ?_
  refine X.region ?_
  refine X.opw X.wN rfl (X.move (v := .int .i64 _) rfl) ?_
  refine X.opw X.wN rfl (X.neI rfl rfl) ?_
  refine X.opsEnd ?_
  refine X.condT rfl ?_
  refine X.seq ?_
  refine X.region ?_
  refine X.opw X.wN rfl (X.move (v := .int .i64 _) rfl) ?_
  refine X.opw X.wN rfl (X.assign (v := .int .i64 _) rfl) ?_
  refine X.opsEnd ?_
  refine X.ret1 (v := (.int .i64 _)) Try.func10 Try.results10 rfl ?_
  exact ⟨rfl, hk1⟩
-- f13 "(*pedigree/disk.Disk).Read" params [26, 9, 3, 3] results [22, 27] -> [(ResultVar.tmp 8), (ResultVar.tm
set_option maxHeartbeats 4000000 in
set_option maxRecDepth 100000 in
theorem Read_n (nm : ByteArray) (i j : Int) (p : Option Addr) (w : World) (h : Nob w p) : Ret Try.prog 13 #[.pointer p, .string nm, .int .i64 i, .int .i64 j] w fun r w' => r = .tuple #[.slice none 0 0, .int .i64 4] ∧ Keep w w' := by
  refine X.enter Try.func13 rfl Try.ntmps13 rfl ?_
  refine X.seq ?_
  refine X.region ?_
  refine X.opw X.wN rfl (X.assign rfl) ?_
  refine X.opw X.wN rfl (X.assign rfl) ?_
  refine X.opsEnd ?_
  refine X.seq ?_
  refine X.seq ?_
  refine X.region ?_
  refine X.opw X.wN rfl (X.move rfl) ?_
  refine X.opE X.wN rfl (X.callE (is_n p _ h) Try.call36 rfl rfl) ?_
  rintro _ w1 ⟨rfl, hk1⟩
  have hk1' := hk1.size
  refine X.opw X.wN rfl (X.not_ rfl) ?_
  refine X.opsEnd ?_
  refine X.condT rfl ?_
  refine X.seq ?_
  refine X.region ?_
  refine X.opw X.wN rfl (X.assign rfl) ?_
  refine X.opw X.wN rfl (X.assign rfl) ?_
  refine X.opsEnd ?_
  refine X.ret2 (v2 := (.int .i64 _)) Try.func13 Try.results13 rfl rfl ?_
  exact ⟨rfl, hk1⟩
-- f12 "(*pedigree/disk.Disk).Size" params [26, 9] results [3, 27] -> [(ResultVar.tmp 4), (ResultVar.tmp 5)] n
set_option maxHeartbeats 4000000 in
set_option maxRecDepth 100000 in
theorem Size_n (nm : ByteArray) (p : Option Addr) (w : World) (h : Nob w p) : Ret Try.prog 12 #[.pointer p, .string nm] w fun r w' => r = .tuple #[.int .i64 0, .int .i64 4] ∧ Keep w w' := by
  refine X.enter Try.func12 rfl Try.ntmps12 rfl ?_
  refine X.seq ?_
  refine X.region ?_
  refine X.opw X.wN rfl (X.assign rfl) ?_
  refine X.opw X.wN rfl (X.assign rfl) ?_
  refine X.opsEnd ?_
  refine X.seq ?_
  refine X.seq ?_
  refine X.region ?_
  refine X.opw X.wN rfl (X.move rfl) ?_
  refine X.opE X.wN rfl (X.callE (is_n p _ h) Try.call36 rfl rfl) ?_
  rintro _ w1 ⟨rfl, hk1⟩
  have hk1' := hk1.size
  refine X.opw X.wN rfl (X.not_ rfl) ?_
  refine X.opsEnd ?_
  refine X.condT rfl ?_
  refine X.seq ?_
  refine X.region ?_
  refine X.opw X.wN rfl (X.assign rfl) ?_
  refine X.opw X.wN rfl (X.assign rfl) ?_
  refine X.opsEnd ?_
  refine X.ret2 (v1 := (.int .i64 _)) (v2 := (.int .i64 _)) Try.func12 Try.results12 rfl rfl ?_
  exact ⟨rfl, hk1⟩
-- f23 "(*pedigree/disk.Disk).Names" params [26] results [66] -> [(ResultVar.tmp 2)] nfree 0 ntmps 12 names ["
set_option maxHeartbeats 4000000 in
set_option maxRecDepth 100000 in
theorem Names_n  (p : Option Addr) (w : World) (h : Nob w p) : Ret Try.prog 23 #[.pointer p] w fun r w' => r = .slice none 0 0 ∧ Keep w w' := by
  refine X.enter Try.func23 rfl Try.ntmps23 rfl ?_
  refine X.seq ?_
  refine X.region ?_
  refine X.opw X.wN rfl (X.assign rfl) ?_
  refine X.opsEnd ?_
  refine X.seq ?_
  refine X.seq ?_
  refine X.region ?_
  refine X.opw X.wN rfl (X.move rfl) ?_
  refine X.opE X.wN rfl (X.callE (is_n p _ h) Try.call36 rfl rfl) ?_
  rintro _ w1 ⟨rfl, hk1⟩
  have hk1' := hk1.size
  refine X.opw X.wN rfl (X.not_ rfl) ?_
  refine X.opsEnd ?_
  refine X.condT rfl ?_
  refine X.seq ?_
  refine X.region ?_
  refine X.opw X.wN rfl (X.assign rfl) ?_
  refine X.opsEnd ?_
  refine X.ret1 Try.func23 Try.results23 rfl ?_
  exact ⟨rfl, hk1⟩
-- f22 "(*pedigree/disk.Disk).Used" params [26] results [3, 3] -> [(ResultVar.tmp 2), (ResultVar.tmp 3)] nfree
set_option maxHeartbeats 4000000 in
set_option maxRecDepth 100000 in
theorem Used_n  (p : Option Addr) (w : World) (h : Nob w p) : Ret Try.prog 22 #[.pointer p] w fun r w' => r = .tuple #[.int .i64 0, .int .i64 0] ∧ Keep w w' := by
  refine X.enter Try.func22 rfl Try.ntmps22 rfl ?_
  refine X.seq ?_
  refine X.region ?_
  refine X.opw X.wN rfl (X.assign rfl) ?_
  refine X.opw X.wN rfl (X.assign rfl) ?_
  refine X.opsEnd ?_
  refine X.seq ?_
  refine X.seq ?_
  refine X.region ?_
  refine X.opw X.wN rfl (X.move rfl) ?_
  refine X.opE X.wN rfl (X.callE (is_n p _ h) Try.call36 rfl rfl) ?_
  rintro _ w1 ⟨rfl, hk1⟩
  have hk1' := hk1.size
  refine X.opw X.wN rfl (X.not_ rfl) ?_
  refine X.opsEnd ?_
  refine X.condT rfl ?_
  refine X.seq ?_
  refine X.region ?_
  refine X.opw X.wN rfl (X.assign rfl) ?_
  refine X.opw X.wN rfl (X.assign rfl) ?_
  refine X.opsEnd ?_
  refine X.ret2 (v1 := (.int .i64 _)) (v2 := (.int .i64 _)) Try.func22 Try.results22 rfl rfl ?_
  exact ⟨rfl, hk1⟩
-- f20 "(*pedigree/disk.Disk).Loose" params [26] results [3, 3, 3] -> [(ResultVar.tmp 2), (ResultVar.tmp 3), (
set_option maxHeartbeats 4000000 in
set_option maxRecDepth 100000 in
theorem Loose_n  (p : Option Addr) (w : World) (h : Nob w p) : Ret Try.prog 20 #[.pointer p] w fun r w' => r = .tuple #[.int .i64 0, .int .i64 0, .int .i64 0] ∧ Keep w w' := by
  refine X.enter Try.func20 rfl Try.ntmps20 rfl ?_
  refine X.seq ?_
  refine X.region ?_
  refine X.opw X.wN rfl (X.assign rfl) ?_
  refine X.opw X.wN rfl (X.assign rfl) ?_
  refine X.opw X.wN rfl (X.assign rfl) ?_
  refine X.opsEnd ?_
  refine X.seq ?_
  refine X.seq ?_
  refine X.region ?_
  refine X.opw X.wN rfl (X.move rfl) ?_
  refine X.opE X.wN rfl (X.callE (is_n p _ h) Try.call36 rfl rfl) ?_
  rintro _ w1 ⟨rfl, hk1⟩
  have hk1' := hk1.size
  refine X.opw X.wN rfl (X.not_ rfl) ?_
  refine X.opsEnd ?_
  refine X.condT rfl ?_
  refine X.seq ?_
  refine X.region ?_
  refine X.opw X.wN rfl (X.assign rfl) ?_
  refine X.opw X.wN rfl (X.assign rfl) ?_
  refine X.opw X.wN rfl (X.assign rfl) ?_
  refine X.opsEnd ?_
  refine X.ret3 (v1 := (.int .i64 _)) (v2 := (.int .i64 _)) (v3 := (.int .i64 _)) Try.func20 Try.results20 rfl rfl rfl ?_
  exact ⟨rfl, hk1⟩
-- f19 "(*pedigree/disk.Disk).Fuse" params [26, 3] results [27] -> [(ResultVar.tmp 4)] nfree 0 ntmps 23 names 
set_option maxHeartbeats 4000000 in
set_option maxRecDepth 100000 in
theorem Fuse_n (i : Int) (p : Option Addr) (w : World) (h : Nob w p) : Ret Try.prog 19 #[.pointer p, .int .i64 i] w fun r w' => r = .int .i64 4 ∧ Keep w w' := by
  refine X.enter Try.func19 rfl Try.ntmps19 rfl ?_
  refine X.seq ?_
  refine X.region ?_
  refine X.opw X.wN rfl (X.assign rfl) ?_
  refine X.opsEnd ?_
  refine X.seq ?_
  refine X.block ?_
  refine X.seq ?_
  refine X.region ?_
  refine X.opw X.wN rfl (X.move rfl) ?_
  refine X.opE X.wN rfl (X.callE (is_n p _ h) Try.call36 rfl rfl) ?_
  rintro _ w1 ⟨rfl, hk1⟩
  have hk1' := hk1.size
  refine X.opw X.wN rfl (X.not_ rfl) ?_
  refine X.opw X.wN rfl (X.assign (v := .bool true) rfl) ?_
  refine X.opsEnd ?_
  refine X.condT rfl ?_
  refine X.seq ?_
  refine X.region ?_
  refine X.opw X.wN rfl (X.assign rfl) ?_
  refine X.opsEnd ?_
  refine X.ret1 (v := (.int .i64 _)) Try.func19 Try.results19 rfl ?_
  exact ⟨rfl, hk1⟩
-- f21 "(*pedigree/disk.Disk).Rot" params [26, 9, 3, 5] results [27] -> [(ResultVar.tmp 8)] nfree 0 ntmps 62 n
set_option maxHeartbeats 4000000 in
set_option maxRecDepth 100000 in
theorem Rot_n (nm : ByteArray) (i : Int) (k : UInt8) (p : Option Addr) (w : World) (h : Nob w p) : Ret Try.prog 21 #[.pointer p, .string nm, .int .i64 i, .int .u8 (k.toNat : Int)] w fun r w' => r = .int .i64 4 ∧ Keep w w' := by
  refine X.enter Try.func21 rfl Try.ntmps21 rfl ?_
  refine X.seq ?_
  refine X.region ?_
  refine X.opw X.wN rfl (X.assign rfl) ?_
  refine X.opsEnd ?_
  refine X.seq ?_
  refine X.seq ?_
  refine X.region ?_
  refine X.opw X.wN rfl (X.move rfl) ?_
  refine X.opE X.wN rfl (X.callE (is_n p _ h) Try.call36 rfl rfl) ?_
  rintro _ w1 ⟨rfl, hk1⟩
  have hk1' := hk1.size
  refine X.opw X.wN rfl (X.not_ rfl) ?_
  refine X.opsEnd ?_
  refine X.condT rfl ?_
  refine X.seq ?_
  refine X.region ?_
  refine X.opw X.wN rfl (X.assign rfl) ?_
  refine X.opsEnd ?_
  refine X.ret1 (v := (.int .i64 _)) Try.func21 Try.results21 rfl ?_
  exact ⟨rfl, hk1⟩
-- f14 "(*pedigree/disk.Disk).Lose" params [26, 25] results [26, 27] -> [(ResultVar.tmp 4), (ResultVar.tmp 5)]
set_option maxHeartbeats 4000000 in
set_option maxRecDepth 100000 in
theorem Lose_n (v : Value) (p : Option Addr) (w : World) (h : Nob w p) : Ret Try.prog 14 #[.pointer p, v] w fun r w' => r = .tuple #[.pointer none, .int .i64 4] ∧ Keep w w' := by
  refine X.enter Try.func14 rfl Try.ntmps14 rfl ?_
  refine X.seq ?_
  refine X.region ?_
  refine X.opE X.wN rfl (X.boxE rfl rfl) ?_
  rintro _ w1 ⟨rfl, hB1, hk1, hz1⟩
  refine X.opw X.wN rfl (X.assign rfl) ?_
  refine X.opw X.wN rfl (X.assign rfl) ?_
  refine X.opsEnd ?_
  refine X.seq ?_
  refine X.seq ?_
  refine X.region ?_
  refine X.opw X.wN rfl (X.move rfl) ?_
  refine X.opE X.wN rfl (X.callE (is_n p _ (h.keep hk1)) Try.call36 rfl rfl) ?_
  rintro _ w2 ⟨rfl, hk2⟩
  have hk2' := hk2.size
  refine X.opw X.wN rfl (X.not_ rfl) ?_
  refine X.opsEnd ?_
  refine X.condT rfl ?_
  refine X.seq ?_
  refine X.region ?_
  refine X.opw X.wN rfl (X.assign rfl) ?_
  refine X.opw X.wN rfl (X.assign rfl) ?_
  refine X.opsEnd ?_
  refine X.ret2 (v2 := (.int .i64 _)) Try.func14 Try.results14 rfl rfl ?_
  exact ⟨rfl, (hk1.trans hk2)⟩
end Go.Proofs.Ytcdebnppbnmmgaa

namespace Go.Proofs.Ytcdebnppbnmmgaa
open Go Go.Proofs.Ytcdebnppbnmmgaa.X
set_option linter.unusedVariables false
set_option linter.unusedSimpArgs false
-- f24 "(*pedigree/disk.Disk).Down" params [26] results [4] -> [(ResultVar.tmp 2)] nfree 0 ntmps 18 names ["d"
set_option maxHeartbeats 4000000 in
set_option maxRecDepth 100000 in
theorem Down_c {b bd : Nat} {rm mk lf : Int} {bf bx bl : Option Nat} {A : Option Addr} {n c : Nat} {fu : Bool} (w : World) (hB : Blk w b (dkL rm bf mk (some bd) bx A n c bl fu lf) 60) : Ret Try.prog 24 #[ptrV b] w fun r w' => r = .bool (fu && decide (lf ≤ 0)) ∧ Keep w w' := by
  refine X.enter Try.func24 rfl Try.ntmps24 rfl ?_
  refine X.seq ?_
  refine X.region ?_
  refine X.opw X.wN rfl (X.assign rfl) ?_
  refine X.opsEnd ?_
  refine X.seq ?_
  refine X.region ?_
  refine X.opw X.wN rfl (X.move rfl) ?_
  refine X.opE X.wN rfl (X.callE (is_c _ hB) Try.call36 rfl rfl) ?_
  rintro _ w1 ⟨rfl, hk1⟩
  have hk1' := hk1.size
  refine X.opw X.wN rfl (X.move (v := .bool true) rfl) ?_
  refine X.opw (X.wG rfl rfl rfl) rfl (X.move rfl) ?_
  refine X.opw (X.wG rfl rfl rfl) rfl (X.nilCk rfl) ?_
  refine X.opw (X.wG rfl rfl rfl) rfl (X.fldB (j := 7) Try.underlying60 rfl rfl Try.sizeOf4 rfl) ?_
  refine X.opw (X.wG rfl rfl rfl) rfl (X.load1B Try.isAgg4 (hB.keep hk1) rfl rfl) ?_
  refine X.opw X.wN rfl (X.pickT (v := .bool _) rfl rfl) ?_
  refine X.opw X.wN rfl (X.move (v := .bool _) rfl) ?_
  refine X.forkO 11 rfl (fun h11 => ?_) (fun h11 => ?_)
  · refine X.opw (X.wG rfl rfl rfl) rfl (X.move rfl) ?_
    refine X.opw (X.wG rfl rfl rfl) rfl (X.nilCk rfl) ?_
    refine X.opw (X.wG rfl rfl rfl) rfl (X.fldB (j := 8) Try.underlying60 rfl rfl Try.sizeOf3 rfl) ?_
    refine X.opw (X.wG rfl rfl rfl) rfl (X.load1B Try.isAgg3 (hB.keep hk1) rfl rfl) ?_
    refine X.opw (X.wG rfl rfl rfl) rfl (X.leq rfl rfl) ?_
    refine X.opw X.wN rfl (X.pickT (v := .bool _) rfl rfl) ?_
    refine X.opw X.wN rfl (X.assign (v := .bool _) rfl) ?_
    refine X.opsEnd ?_
    refine X.ret1 (v := (.bool _)) Try.func24 Try.results24 rfl ?_
    refine ⟨?_, hk1⟩
    first | rfl | simp_all
  · refine X.opS rfl rfl rfl rfl rfl ?_
    refine X.opS rfl rfl rfl rfl rfl ?_
    refine X.opS rfl rfl rfl rfl rfl ?_
    refine X.opS rfl rfl rfl rfl rfl ?_
    refine X.opS rfl rfl rfl rfl rfl ?_
    refine X.opw X.wN rfl (X.pickF (v := .bool false) rfl rfl) ?_
    refine X.opw X.wN rfl (X.assign (v := .bool false) rfl) ?_
    refine X.opsEnd ?_
    refine X.ret1 (v := (.bool _)) Try.func24 Try.results24 rfl ?_
    refine ⟨?_, hk1⟩
    first | rfl | simp_all
-- f25 "(*pedigree/disk.Disk).may" params [26] results [27] -> [(ResultVar.tmp 2)] nfree 0 ntmps 10 names ["d"
set_option maxHeartbeats 4000000 in
set_option maxRecDepth 100000 in
theorem may_c {b bd : Nat} {rm mk lf : Int} {bf bx bl : Option Nat} {A : Option Addr} {n c : Nat} {fu : Bool} (w : World) (hB : Blk w b (dkL rm bf mk (some bd) bx A n c bl fu lf) 60) : Ret Try.prog 25 #[ptrV b] w fun r w' => r = .int .i64 (if (fu && decide (lf ≤ 0)) = true then 54 else 0) ∧ Keep w w' := by
  refine X.enter Try.func25 rfl Try.ntmps25 rfl ?_
  refine X.seq ?_
  refine X.region ?_
  refine X.opw X.wN rfl (X.assign rfl) ?_
  refine X.opsEnd ?_
  refine X.seq ?_
  refine X.block ?_
  refine X.seq ?_
  refine X.region ?_
  refine X.opw X.wN rfl (X.move rfl) ?_
  refine X.opE X.wN rfl (X.callE (is_c _ hB) Try.call36 rfl rfl) ?_
  rintro _ w1 ⟨rfl, hk1⟩
  have hk1' := hk1.size
  refine X.opw X.wN rfl (X.not_ rfl) ?_
  refine X.opw X.wN rfl (X.assign (v := .bool false) rfl) ?_
  refine X.opsEnd ?_
  refine X.condF rfl ?_
  refine X.seq ?_
  refine X.region ?_
  refine X.opw X.wN rfl (X.move rfl) ?_
  refine X.opE X.wN rfl (X.callE (Down_c _ (hB.keep hk1)) Try.call24 rfl rfl) ?_
  rintro _ w2 ⟨rfl, hk2⟩
  have hk2' := hk2.size
  refine X.opw X.wN rfl (X.assign (v := .bool _) rfl) ?_
  refine X.opsEnd ?_
  refine X.condB rfl (fun hc => ?_) (fun hc => ?_)
  · refine X.seq ?_
    refine X.region ?_
    refine X.opw X.wN rfl (X.assign rfl) ?_
    refine X.opsEnd ?_
    refine X.ret1 (v := (.int .i64 _)) Try.func25 Try.results25 rfl ?_
    exact ⟨by rw [if_pos hc], (hk1.trans hk2)⟩
  · refine X.skip ?_
    refine X.inBlock ?_
    refine X.seq ?_
    refine X.region ?_
    refine X.opw X.wN rfl (X.assign rfl) ?_
    refine X.opsEnd ?_
    refine X.ret1 (v := (.int .i64 _)) Try.func25 Try.results25 rfl ?_
    exact ⟨by rw [if_neg (by simpa using hc)], (hk1.trans hk2)⟩
-- f28 "(*pedigree/disk.Disk).did" params [26] results [27] -> [(ResultVar.tmp 2)] nfree 0 ntmps 14 names ["d"
set_option maxHeartbeats 4000000 in
set_option maxRecDepth 100000 in
theorem did_c {b bd : Nat} {rm mk lf : Int} {bf bx bl : Option Nat} {A : Option Addr} {n c : Nat} {fu : Bool} (w : World) (hB : Blk w b (dkL rm bf mk (some bd) bx A n c bl fu lf) 60) (hlf : -1000000000 ≤ lf ∧ lf ≤ 1000000000) : Ret Try.prog 28 #[ptrV b] w fun r w' => r = .int .i64 0 ∧ Blk w' b (dkL rm bf mk (some bd) bx A n c bl fu (if fu = true then lf - 1 else lf)) 60 ∧ Ext (fun q => q = b) w w' := by
  refine X.enter Try.func28 rfl Try.ntmps28 rfl ?_
  refine X.seq ?_
  refine X.region ?_
  refine X.opw X.wN rfl (X.assign rfl) ?_
  refine X.opsEnd ?_
  refine X.seq ?_
  refine X.seq ?_
  refine X.region ?_
  refine X.opw X.wN rfl (X.move rfl) ?_
  refine X.opw X.wN rfl (X.nilCk rfl) ?_
  refine X.opw X.wN rfl (X.fldB (j := 7) Try.underlying60 rfl rfl Try.sizeOf4 rfl) ?_
  refine X.opw X.wN rfl (X.load1B Try.isAgg4 hB rfl rfl) ?_
  refine X.opsEnd ?_
  refine X.condB rfl (fun hc => ?_) (fun hc => ?_)
  · refine X.region ?_
    refine X.opw X.wN rfl (X.move rfl) ?_
    refine X.opw X.wN rfl (X.nilCk rfl) ?_
    refine X.opw X.wN rfl (X.fldB (j := 8) Try.underlying60 rfl rfl Try.sizeOf3 rfl) ?_
    refine X.opw X.wN rfl (X.load1B Try.isAgg3 hB rfl rfl) ?_
    refine X.opw X.wN rfl (X.sub rfl rfl (X.w_i64 (by omega))) ?_
    refine X.opw X.wN rfl (X.nilCk rfl) ?_
    refine X.opw X.wN rfl (X.fldB (j := 8) Try.underlying60 rfl rfl Try.sizeOf3 rfl) ?_
    refine X.opE X.wN rfl (X.storeE Try.sizeOf3 hB rfl rfl rfl rfl) ?_
    rintro _ w1 ⟨hB1, hx1, hz1⟩
    refine X.opsEnd ?_
    refine X.seq ?_
    refine X.region ?_
    refine X.opw X.wN rfl (X.assign rfl) ?_
    refine X.opsEnd ?_
    refine X.ret1 (v := (.int .i64 _)) Try.func28 Try.results28 rfl ?_
    rw [if_pos hc]
    exact ⟨rfl, hB1, (Ext.andThen (Ext.refl (fun q => q = b) _) hx1 (by intro q h1 h2; first | exact (h2 : False).elim | exact h2))⟩
  · refine X.skip ?_
    refine X.seq ?_
    refine X.region ?_
    refine X.opw X.wN rfl (X.assign rfl) ?_
    refine X.opsEnd ?_
    refine X.ret1 (v := (.int .i64 _)) Try.func28 Try.results28 rfl ?_
    rw [if_neg (by simpa using hc)]
    exact ⟨rfl, hB, (Ext.refl (fun q => q = b) _)⟩
-- f26 "pedigree/disk.right" params [9] results [4] -> [(ResultVar.tmp 2)] nfree 0 ntmps 10 names ["name", "na
set_option maxHeartbeats 4000000 in
set_option maxRecDepth 100000 in
theorem right_c (nm : ByteArray) (w : World) (hs : nm.size ≤ 9223372036854775807) : Ret Try.prog 26 #[.string nm] w fun r w' => r = .bool (decide (nm ≠ ⟨#[]⟩ ∧ nm.size ≤ 64)) ∧ Keep w w' := by
  refine X.enter Try.func26 rfl Try.ntmps26 rfl ?_
  refine X.seq ?_
  refine X.region ?_
  refine X.opw X.wN rfl (X.assign rfl) ?_
  refine X.opsEnd ?_
  refine X.seq ?_
  refine X.region ?_
  refine X.opw X.wN rfl (X.move (v := .string _) rfl) ?_
  refine X.opP X.wN rfl rfl (X.neD rfl rfl) (fun h4 => ?_) (fun h4 => ?_)
  · refine X.opw X.wN rfl (X.move (v := .bool true) rfl) ?_
    refine X.opw (X.wG rfl rfl rfl) rfl (X.move (v := .string _) rfl) ?_
    refine X.opw (X.wG rfl rfl rfl) rfl (X.lenS Try.underlying9 rfl) ?_
    refine X.opw (X.wG rfl rfl rfl) rfl (X.leq rfl rfl) ?_
    refine X.opw X.wN rfl (X.pickT (v := .bool _) rfl rfl) ?_
    refine X.opw X.wN rfl (X.assign (v := .bool _) rfl) ?_
    refine X.opsEnd ?_
    refine X.ret1 (v := (.bool _)) Try.func26 Try.results26 rfl ?_
    refine ⟨?_, (Keep.refl _)⟩
    congr 1
    first | (rw [decide_eq_decide]; exact ⟨fun h => ⟨by assumption, by omega⟩, fun h => by have := h.2; omega⟩) | exact (decide_eq_false (fun h => absurd h.1 (by assumption))).symm | simp_all
  · refine X.opw X.wN rfl (X.move (v := .bool false) rfl) ?_
    refine X.opS rfl rfl rfl rfl rfl ?_
    refine X.opS rfl rfl rfl rfl rfl ?_
    refine X.opS rfl rfl rfl rfl rfl ?_
    refine X.opw X.wN rfl (X.pickF (v := .bool false) rfl rfl) ?_
    refine X.opw X.wN rfl (X.assign (v := .bool false) rfl) ?_
    refine X.opsEnd ?_
    refine X.ret1 (v := (.bool _)) Try.func26 Try.results26 rfl ?_
    refine ⟨?_, (Keep.refl _)⟩
    congr 1
    first | (rw [decide_eq_decide]; exact ⟨fun h => ⟨by assumption, by omega⟩, fun h => by have := h.2; omega⟩) | exact (decide_eq_false (fun h => absurd h.1 (by assumption))).symm | simp_all
-- f31 "pedigree/disk.sectors" params [3] results [3] -> [(ResultVar.tmp 2)] nfree 0 ntmps 7 names ["n", "n", 
set_option maxHeartbeats 4000000 in
set_option maxRecDepth 100000 in
theorem sectors_c (n : Nat) (w : World) (hn : n ≤ 1000000000) : Ret Try.prog 31 #[.int .i64 (n : Int)] w fun r w' => r = .int .i64 (((n + 63) / 64 : Nat) : Int) ∧ Keep w w' := by
  refine X.enter Try.func31 rfl Try.ntmps31 rfl ?_
  refine X.seq ?_
  refine X.region ?_
  refine X.opw X.wN rfl (X.assign rfl) ?_
  refine X.opsEnd ?_
  refine X.seq ?_
  refine X.region ?_
  refine X.opw X.wN rfl (X.move (v := .int .i64 _) rfl) ?_
  refine X.opw X.wN rfl (X.add rfl rfl (X.w_i64 (by omega))) ?_
  refine X.opw X.wN rfl (X.sub rfl rfl (X.w_i64 (by omega))) ?_
  refine X.opw X.wN rfl (X.quo (c := (((n + 63) / 64 : Nat) : Int)) rfl rfl (by decide) (by rw [show ((n : Int) + 64 - 1).tdiv 64 = (((n + 63) / 64 : Nat) : Int) by rw [show (n : Int) + 64 - 1 = ((n + 63 : Nat) : Int) by omega]; rfl]; exact X.w_i64 (by omega))) ?_
  refine X.opw X.wN rfl (X.assign (v := .int .i64 _) rfl) ?_
  refine X.opsEnd ?_
  refine X.ret1 (v := (.int .i64 _)) Try.func31 Try.results31 rfl ?_
  exact ⟨rfl, (Keep.refl _)⟩
end Go.Proofs.Ytcdebnppbnmmgaa

namespace Go.Proofs.Ytcdebnppbnmmgaa
open Go Go.Proofs.Ytcdebnppbnmmgaa.X
set_option linter.unusedVariables false
set_option linter.unusedSimpArgs false
abbrev CHG := ByteArray × ByteArray × Int
abbrev DIR := List (ByteArray × Int)
abbrev evCh (c : CHG) : Value := .agg #[.string c.1, .string c.2.1, .int .i64 c.2.2]
abbrev MPD (w : World) (b : Nat) (d : DIR) : Prop := MpV (fun x : ByteArray => Value.string x) (fun v : Int => Value.int .i64 v) w b d
/-- A directory, changed. -/
def trn (c : CHG) (d : DIR) : DIR := (fun e => if c.2.1 = ⟨#[]⟩ then e else put c.2.1 c.2.2 e) (if c.1 = ⟨#[]⟩ then d else del c.1 d)
theorem MPD.nd {w : World} {b : Nat} {d : DIR} (h : MPD w b d) : (d.map (·.1)).Nodup := by
  have := h.nodup
  rw [mv, List.map_map] at this
  exact this
-- f37 "pedigree/disk.turn" params [56, 76] results [] -> [] nfree 0 ntmps 18 names ["dir", "c", "dir", "c", "
set_option maxHeartbeats 4000000 in
set_option maxRecDepth 100000 in
theorem turn_c {b : Nat} {d : DIR} (c : CHG) (w : World) (hG : MPD w b d) : Ret Try.prog 37 #[.map (some b), evCh c] w fun r w' => r = .tuple #[] ∧ MPD w' b (trn c d) ∧ Ext (fun q => q = b) w w' := by
  have hb := hG.lt
  refine X.enter Try.func37 rfl Try.ntmps37 rfl ?_
  refine X.seq ?_
  refine X.region ?_
  refine X.opE X.wN rfl (X.boxE rfl rfl) ?_
  rintro _ w1 ⟨rfl, hB1, hk1, hz1⟩
  refine X.opsEnd ?_
  refine X.seq ?_
  refine X.seq ?_
  refine X.region ?_
  refine X.opw X.wN rfl (X.fldB (j := 0) Try.underlying76 rfl rfl Try.sizeOf9 rfl) ?_
  refine X.opw X.wN rfl (X.load1B Try.isAgg9 hB1 rfl rfl) ?_
  refine X.opP X.wN rfl rfl (X.neD rfl rfl) (fun h6 => ?_) (fun h6 => ?_)
  · refine X.opsEnd ?_
    refine X.condT rfl ?_
    refine X.region ?_
    refine X.opw X.wN rfl (X.move rfl) ?_
    refine X.opw X.wN rfl (X.fldB (j := 0) Try.underlying76 rfl rfl Try.sizeOf9 rfl) ?_
    refine X.opw X.wN rfl (X.load1B Try.isAgg9 hB1 rfl rfl) ?_
    refine X.opE X.wN rfl (X.deleteV (enc := fun x : ByteArray => Value.string x) (venc := fun v : Int => Value.int .i64 v) (a := c.1) Try.underlying56 (keyStr Try.underlying9) (hG.keep hk1) rfl rfl) ?_
    rintro _ w2 ⟨rfl, hG2, hx2, hz2⟩
    refine X.opsEnd ?_
    refine X.seq ?_
    refine X.region ?_
    refine X.opw X.wN rfl (X.fldB (j := 1) Try.underlying76 rfl rfl Try.sizeOf9 rfl) ?_
    refine X.opw X.wN rfl (X.load1B Try.isAgg9 (hB1.ext hx2 (by first | (intros; (try simp only []); omega) | (intro h; have h : _ = b := h; omega))) rfl rfl) ?_
    refine X.opP X.wN rfl rfl (X.neD rfl rfl) (fun h12 => ?_) (fun h12 => ?_)
    · refine X.opsEnd ?_
      refine X.condT rfl ?_
      refine X.region ?_
      refine X.opw X.wN rfl (X.move rfl) ?_
      refine X.opw X.wN rfl (X.fldB (j := 1) Try.underlying76 rfl rfl Try.sizeOf9 rfl) ?_
      refine X.opw X.wN rfl (X.load1B Try.isAgg9 (hB1.ext hx2 (by first | (intros; (try simp only []); omega) | (intro h; have h : _ = b := h; omega))) rfl rfl) ?_
      refine X.opw X.wN rfl (X.fldB (j := 2) Try.underlying76 rfl rfl Try.sizeOf3 rfl) ?_
      refine X.opw X.wN rfl (X.load1B Try.isAgg3 (hB1.ext hx2 (by first | (intros; (try simp only []); omega) | (intro h; have h : _ = b := h; omega))) rfl rfl) ?_
      refine X.opE X.wN rfl (X.updateV (enc := fun x : ByteArray => Value.string x) (venc := fun v : Int => Value.int .i64 v) (v := c.2.2) Try.underlying56 (keyStr Try.underlying9) hG2 rfl rfl rfl) ?_
      rintro _ w3 ⟨hG3, hx3, hz3⟩
      refine X.opsEnd ?_
      refine X.end0 Try.func37 Try.results37 ?_
      have e1 : ¬ c.1 = ⟨#[]⟩ := by first | exact h6 | simpa using h6
      have e2 : ¬ c.2.1 = ⟨#[]⟩ := by first | exact h12 | simpa using h12
      refine ⟨rfl, ?_, (Ext.andThen (Ext.andThen (Ext.andThen (Ext.refl (fun q => q = b) _) hk1 (by intro q h1 h2; first | exact (h2 : False).elim | exact h2)) hx2 (by intro q h1 h2; first | exact (h2 : False).elim | exact h2)) hx3 (by intro q h1 h2; first | exact (h2 : False).elim | exact h2))⟩
      simp only [trn, if_neg e1, if_neg e2]
      exact hG3
    · refine X.opsEnd ?_
      refine X.condF rfl ?_
      refine X.skip ?_
      refine X.end0 Try.func37 Try.results37 ?_
      have e1 : ¬ c.1 = ⟨#[]⟩ := by first | exact h6 | simpa using h6
      have e2 : c.2.1 = ⟨#[]⟩ := by first | exact h12 | simpa using h12
      refine ⟨rfl, ?_, (Ext.andThen (Ext.andThen (Ext.refl (fun q => q = b) _) hk1 (by intro q h1 h2; first | exact (h2 : False).elim | exact h2)) hx2 (by intro q h1 h2; first | exact (h2 : False).elim | exact h2))⟩
      simp only [trn, if_neg e1, if_pos e2]
      exact hG2
  · refine X.opsEnd ?_
    refine X.condF rfl ?_
    refine X.skip ?_
    refine X.seq ?_
    refine X.region ?_
    refine X.opw X.wN rfl (X.fldB (j := 1) Try.underlying76 rfl rfl Try.sizeOf9 rfl) ?_
    refine X.opw X.wN rfl (X.load1B Try.isAgg9 hB1 rfl rfl) ?_
    refine X.opP X.wN rfl rfl (X.neD rfl rfl) (fun h12 => ?_) (fun h12 => ?_)
    · refine X.opsEnd ?_
      refine X.condT rfl ?_
      refine X.region ?_
      refine X.opw X.wN rfl (X.move rfl) ?_
      refine X.opw X.wN rfl (X.fldB (j := 1) Try.underlying76 rfl rfl Try.sizeOf9 rfl) ?_
      refine X.opw X.wN rfl (X.load1B Try.isAgg9 hB1 rfl rfl) ?_
      refine X.opw X.wN rfl (X.fldB (j := 2) Try.underlying76 rfl rfl Try.sizeOf3 rfl) ?_
      refine X.opw X.wN rfl (X.load1B Try.isAgg3 hB1 rfl rfl) ?_
      refine X.opE X.wN rfl (X.updateV (enc := fun x : ByteArray => Value.string x) (venc := fun v : Int => Value.int .i64 v) (v := c.2.2) Try.underlying56 (keyStr Try.underlying9) (hG.keep hk1) rfl rfl rfl) ?_
      rintro _ w4 ⟨hG4, hx4, hz4⟩
      refine X.opsEnd ?_
      refine X.end0 Try.func37 Try.results37 ?_
      have e1 : c.1 = ⟨#[]⟩ := by first | exact h6 | simpa using h6
      have e2 : ¬ c.2.1 = ⟨#[]⟩ := by first | exact h12 | simpa using h12
      refine ⟨rfl, ?_, (Ext.andThen (Ext.andThen (Ext.refl (fun q => q = b) _) hk1 (by intro q h1 h2; first | exact (h2 : False).elim | exact h2)) hx4 (by intro q h1 h2; first | exact (h2 : False).elim | exact h2))⟩
      simp only [trn, if_pos e1, if_neg e2]
      exact hG4
    · refine X.opsEnd ?_
      refine X.condF rfl ?_
      refine X.skip ?_
      refine X.end0 Try.func37 Try.results37 ?_
      have e1 : c.1 = ⟨#[]⟩ := by first | exact h6 | simpa using h6
      have e2 : c.2.1 = ⟨#[]⟩ := by first | exact h12 | simpa using h12
      refine ⟨rfl, ?_, (Ext.andThen (Ext.refl (fun q => q = b) _) hk1 (by intro q h1 h2; first | exact (h2 : False).elim | exact h2))⟩
      simp only [trn, if_pos e1, if_pos e2]
      exact (hG.keep hk1)
end Go.Proofs.Ytcdebnppbnmmgaa

namespace Go.Proofs.Ytcdebnppbnmmgaa
open Go Go.Proofs.Ytcdebnppbnmmgaa.X
set_option linter.unusedVariables false
set_option linter.unusedSimpArgs false
def KCh : Kd CHG := Kd.plain 3 (fun x => [.string x.1, .string x.2.1, .int .i64 x.2.2]) (fun _ => True) (fun _ => rfl) (fun _ u hu => by simp at hu; rcases hu with rfl | rfl | rfl <;> rfl)
theorem KCh_flat : Flat KCh := fun h => h
theorem repsCh {w : World} (x : CHG) : RepsV KCh w [x] [evCh x] := ⟨⟨_, rfl, rfl, trivial⟩, trivial⟩
theorem ECh : ElemInfo Try.prog 76 3 40 := ElemInfo.of (z := .agg #[.string ⟨#[]⟩, .string ⟨#[]⟩, .int .i64 0]) (by kernel_rfl) rfl rfl rfl
-- f27 "(*pedigree/disk.Disk).note" params [26, 76] results [] -> [] nfree 0 ntmps 20 names ["d", "c", "d", "c
set_option maxHeartbeats 4000000 in
set_option maxRecDepth 100000 in
theorem note_c {S : Nat → Prop} {b bd : Nat} {rm mk lf : Int} {bf bx bl : Option Nat} {A : Option Addr} {n c : Nat} {fu : Bool} {d : DIR} {chs : List CHG} (x : CHG) (w : World) (hB : Blk w b (dkL rm bf mk (some bd) bx A n c bl fu lf) 60) (hG : MPD w bd d) (hM : Mine KCh 76 S 0 0 w (.slice A n c) chs) (hbd : b ≠ bd) (hSb : ¬ S b) (hSd : ¬ S bd) (hSl : ∀ q, S q → q < w.heap.size) (hn : chs.length ≤ 100000) : Ret Try.prog 27 #[ptrV b, evCh x] w fun r w' => r = .tuple #[] ∧ ∃ A' n' c', Blk w' b (dkL rm bf mk (some bd) bx A' n' c' bl fu lf) 60 ∧ MPD w' bd (trn x d) ∧ Mine KCh 76 (fun q => S q ∨ (w.heap.size ≤ q ∧ q < w'.heap.size)) 0 0 w' (.slice A' n' c') (chs ++ [x]) ∧ Ext (fun q => q = b ∨ q = bd ∨ S q) w w' := by
  have hbl := hB.lt
  have hdl := hG.lt
  refine X.enter Try.func27 rfl Try.ntmps27 rfl ?_
  refine X.seq ?_
  refine X.region ?_
  refine X.opE X.wN rfl (X.boxE rfl rfl) ?_
  rintro _ w1 ⟨rfl, hB1, hk1, hz1⟩
  refine X.opsEnd ?_
  refine X.seq ?_
  refine X.regionD (fun _ => False) 5 (by kernel_rfl) (by kernel_rfl) (fun w2 hk2 hz2 => ?_)
  refine X.dTake 4 rfl (by kernel_rfl) (by kernel_rfl) (by kernel_rfl) (X.dwN rfl) (fun w' hk' => X.loadNB Try.isAgg76 Try.sizeOf76 (hB1.keep (hk2.trans hk')) rfl rfl rfl) ?_
  refine X.dStep (i := 0) (by kernel_rfl) rfl (X.dwN rfl) (X.move rfl) (fun _ => Ext.refl _ _) ?_
  refine X.dStep (i := 1) (by kernel_rfl) rfl (X.dwN rfl) (X.nilCk rfl) (fun _ => Ext.refl _ _) ?_
  refine X.dStep (i := 2) (by kernel_rfl) rfl (X.dwN rfl) (X.fldB (j := 3) Try.underlying60 rfl rfl Try.sizeOf56 rfl) (fun _ => Ext.refl _ _) ?_
  refine X.dTake 3 rfl (by kernel_rfl) (by kernel_rfl) (by kernel_rfl) (X.dwN rfl) (fun w' hk' => X.load1B Try.isAgg56 (hB.keep ((hk1.trans hk2).trans hk')) rfl rfl) ?_
  refine X.dE (i := 5) (by kernel_rfl) rfl (X.dwN rfl) (X.callE (turn_c x _ (hG.keep (hk1.trans hk2))) Try.call37 rfl rfl) (fun _ _ _ h => absurd h (by decide)) ?_
  rintro _ w3 ⟨rfl, hG2, hx3⟩
  have hx3' := hx3.size
  refine X.dEnd (by kernel_rfl) ?_
  refine X.regionD (fun q => S q ∨ w3.heap.size ≤ q) 8 (by kernel_rfl) (by kernel_rfl) (fun w4 hk4 hz4 => ?_)
  refine X.dTake 0 rfl (by kernel_rfl) (by kernel_rfl) (by kernel_rfl) (X.dwN rfl) (fun w' hk' => X.move rfl) ?_
  refine X.dTake 1 rfl (by kernel_rfl) (by kernel_rfl) (by kernel_rfl) (X.dwN rfl) (fun w' hk' => X.move rfl) ?_
  refine X.dTake 2 rfl (by kernel_rfl) (by kernel_rfl) (by kernel_rfl) (X.dwN rfl) (fun w' hk' => X.nilCk rfl) ?_
  refine X.dTake 3 rfl (by kernel_rfl) (by kernel_rfl) (by kernel_rfl) (X.dwN rfl) (fun w' hk' => X.fldB (j := 5) Try.underlying60 rfl rfl Try.sizeOf57 rfl) ?_
  refine X.dTake 4 rfl (by kernel_rfl) (by kernel_rfl) (by kernel_rfl) (X.dwN rfl) (fun w' hk' => X.load1B Try.isAgg57 ((((hB.keep (hk1.trans hk2)).ext hx3 (by first | (intros; (try simp only []); omega) | (intro h; have h : _ = bd := h; omega) | exact fun h => h.elim hSb (fun h => by omega) | exact fun h => h.elim (fun h => by (have := hSl _ h; omega)) (fun h => by omega))).keep hk4).ext hk' (by first | (intros; (try simp only []); omega) | (intro h; have h : _ = bd := h; omega) | exact fun h => h.elim hSb (fun h => by omega) | exact fun h => h.elim (fun h => by (have := hSl _ h; omega)) (fun h => by omega))) rfl rfl) ?_
  refine X.dTake 5 rfl (by kernel_rfl) (by kernel_rfl) (by kernel_rfl) (X.dwN rfl) (fun w' hk' => X.loadNB Try.isAgg76 Try.sizeOf76 ((((hB1.keep hk2).ext hx3 (by first | (intros; (try simp only []); omega) | (intro h; have h : _ = bd := h; omega) | exact fun h => h.elim hSb (fun h => by omega) | exact fun h => h.elim (fun h => by (have := hSl _ h; omega)) (fun h => by omega))).keep hk4).ext hk' (by first | (intros; (try simp only []); omega) | (intro h; have h : _ = bd := h; omega) | exact fun h => h.elim hSb (fun h => by omega) | exact fun h => h.elim (fun h => by (have := hSl _ h; omega)) (fun h => by omega))) rfl rfl rfl) ?_
  refine X.dE (i := 6) (by kernel_rfl) rfl (X.dwN rfl) (X.litKF KCh_flat (K := KCh) (xs := [Operand.tmp 15]) (vs := [evCh x]) (ys := [x]) Try.underlying57 Try.sizeOf76 Try.zeroValue76 rfl rfl rfl rfl rfl (repsCh x)) (by rintro _ w5 ⟨rfl, hs5, hB5, hk5, hz5⟩ _; exact hk5.mono (fun _ _ h => h.elim)) ?_
  rintro _ w5 ⟨rfl, hs5, hB5, hk5, hz5⟩
  refine X.dE (i := 7) (by kernel_rfl) rfl (X.dwN rfl) (X.appE (K := KCh) (S := fun q => S q ∨ w3.heap.size ≤ q) KCh_flat Try.underlying57 ECh rfl rfl (Mine.mono (T := fun q => S q ∨ w3.heap.size ≤ q) (((((hM.keep hk1).keep hk2).ext hx3 (by intros; omega) (fun q h1 h2 => by have h2 : q = bd := h2; subst h2; exact hSd h1)).keep hk4).keep hk5) (fun q _ h => .inl h)) hs5 (by (try simp only [List.length_append, List.length_cons, List.length_nil, List.length_take, List.length_drop, List.length_map, List.length_range]); omega) (by intros; first | exact .inr (by omega) | (right; omega))) (by rintro v6 w6 ⟨hMa, hx6⟩ _; exact hx6) ?_
  rintro v6 w6 ⟨hMa, hx6⟩
  have hx6' := hx6.size
  refine X.dStep (i := 8) (by kernel_rfl) rfl (X.dwN rfl) (X.nilCk rfl) (fun h => absurd h (by decide)) ?_
  refine X.dStep (i := 9) (by kernel_rfl) rfl (X.dwN rfl) (X.fldB (j := 5) Try.underlying60 rfl rfl Try.sizeOf57 rfl) (fun h => absurd h (by decide)) ?_
  have q7 := hMa.slF KCh_flat 0 (fun _ _ => Nat.zero_le _)
  obtain ⟨A7, c7, rfl, hc7, hs7⟩ := q7
  refine X.dE (i := 10) (by kernel_rfl) rfl (X.dwN rfl) (X.storeE Try.sizeOf57 ((((hB.keep (hk1.trans hk2)).ext hx3 (by first | (intros; (try simp only []); omega) | (intro h; have h : _ = bd := h; omega) | exact fun h => h.elim hSb (fun h => by omega) | exact fun h => h.elim (fun h => by (have := hSl _ h; omega)) (fun h => by omega))).keep (hk4.trans hk5)).ext hx6 (by first | (intros; (try simp only []); omega) | (intro h; have h : _ = bd := h; omega) | exact fun h => h.elim hSb (fun h => by omega) | exact fun h => h.elim (fun h => by (have := hSl _ h; omega)) (fun h => by omega))) rfl rfl rfl rfl) (fun _ _ _ h => absurd h (by decide)) ?_
  rintro _ w8 ⟨hB8, hx8, hz8⟩
  refine X.dEnd (by kernel_rfl) ?_
  refine X.end0 Try.func27 Try.results27 ?_
  exact ⟨rfl, _, _, _, hB8, ((((hG2.keep hk4).keep hk5).ext hx6 (fun h => by first | exact h.elim hSd (fun h => by omega) | exact hbd h.symm | exact hbd h)).ext hx8 (fun h => by first | exact h.elim hSd (fun h => by omega) | exact hbd h.symm | exact hbd h)), ((hMa.ext hx8 (by intros; omega) (fun q h1 h2 => by have h2 : q = b := h2; subst h2; exact h1.elim hSb (fun h => by omega)))).mono (fun k hk h => h.imp id (fun h => ⟨by omega, hk⟩)), (Ext.andThen (Ext.andThen (Ext.andThen (Ext.andThen (Ext.andThen (Ext.andThen (Ext.andThen (Ext.refl (fun q => q = b ∨ q = bd ∨ S q) _) hk1 (by intro q h1 h2; first | exact (h2 : False).elim | exact .inl h2 | exact .inr (.inl h2) | exact h2.elim (fun h => .inr (.inr h)) (fun h => by omega))) hk2 (by intro q h1 h2; first | exact (h2 : False).elim | exact .inl h2 | exact .inr (.inl h2) | exact h2.elim (fun h => .inr (.inr h)) (fun h => by omega))) hx3 (by intro q h1 h2; first | exact (h2 : False).elim | exact .inl h2 | exact .inr (.inl h2) | exact h2.elim (fun h => .inr (.inr h)) (fun h => by omega))) hk4 (by intro q h1 h2; first | exact (h2 : False).elim | exact .inl h2 | exact .inr (.inl h2) | exact h2.elim (fun h => .inr (.inr h)) (fun h => by omega))) hk5 (by intro q h1 h2; first | exact (h2 : False).elim | exact .inl h2 | exact .inr (.inl h2) | exact h2.elim (fun h => .inr (.inr h)) (fun h => by omega))) hx6 (by intro q h1 h2; first | exact (h2 : False).elim | exact .inl h2 | exact .inr (.inl h2) | exact h2.elim (fun h => .inr (.inr h)) (fun h => by omega))) hx8 (by intro q h1 h2; first | exact (h2 : False).elim | exact .inl h2 | exact .inr (.inl h2) | exact h2.elim (fun h => .inr (.inr h)) (fun h => by omega)))⟩
end Go.Proofs.Ytcdebnppbnmmgaa

namespace Go.Proofs.Ytcdebnppbnmmgaa
open Go Go.Proofs.Ytcdebnppbnmmgaa.X
set_option linter.unusedVariables false
set_option linter.unusedSimpArgs false
abbrev MPF (w : World) (b : Nat) (d : List (Int × Value)) : Prop := MpV (fun x : Int => Value.int .i64 x) (fun v : Value => v) w b d
abbrev MPL (w : World) (b : Nat) (d : List ((Int × Int) × Bool)) : Prop := MpV (fun x : Int × Int => Value.agg #[.int .i64 x.1, .int .i64 x.2]) (fun v : Bool => Value.bool v) w b d
-- f6 "pedigree/disk.New" params [3] results [26, 27] -> [(ResultVar.tmp 2), (ResultVar.tmp 3)] nfree 0 ntmps 
set_option maxHeartbeats 4000000 in
set_option maxRecDepth 100000 in
theorem New_c (rm : Int) (w : World) : Ret Try.prog 6 #[.int .i64 rm] w fun r w' => (rm < 1 ∨ 1048576 < rm) ∧ r = .tuple #[.pointer none, .int .i64 1] ∧ Keep w w' ∨ ¬ (rm < 1 ∨ 1048576 < rm) ∧ ∃ b bf bd bx bl, r = .tuple #[ptrV b, .int .i64 0] ∧ Blk w' b (dkL rm (some bf) 0 (some bd) (some bx) none 0 0 (some bl) false 0) 60 ∧ MPF w' bf [] ∧ MPD w' bd [] ∧ MPD w' bx [] ∧ MPL w' bl [] ∧ w.heap.size ≤ bf ∧ bf < bd ∧ bd < bx ∧ bx < bl ∧ bl < b ∧ b < w'.heap.size ∧ Keep w w' := by
  refine X.enter Try.func6 rfl Try.ntmps6 rfl ?_
  refine X.seq ?_
  refine X.region ?_
  refine X.opw X.wN rfl (X.assign rfl) ?_
  refine X.opw X.wN rfl (X.assign rfl) ?_
  refine X.opsEnd ?_
  refine X.seq ?_
  refine X.seq ?_
  refine X.region ?_
  refine X.opw X.wN rfl (X.move (v := .int .i64 _) rfl) ?_
  refine X.opP X.wN rfl rfl (X.lss rfl rfl) (fun h5 => ?_) (fun h5 => ?_)
  · refine X.opw X.wN rfl (X.move (v := .bool true) rfl) ?_
    refine X.opS rfl rfl rfl rfl rfl ?_
    refine X.opS rfl rfl rfl rfl rfl ?_
    refine X.opw X.wN rfl (X.pickT (v := .bool true) rfl rfl) ?_
    refine X.opsEnd ?_
    refine X.condT rfl ?_
    refine X.seq ?_
    refine X.region ?_
    refine X.opw X.wN rfl (X.assign rfl) ?_
    refine X.opw X.wN rfl (X.assign rfl) ?_
    refine X.opsEnd ?_
    refine X.ret2 (v2 := (.int .i64 _)) Try.func6 Try.results6 rfl rfl ?_
    exact .inl ⟨by omega, rfl, (Keep.refl _)⟩
  · refine X.opw X.wN rfl (X.move (v := .bool false) rfl) ?_
    refine X.opw (X.wG rfl rfl rfl) rfl (X.move (v := .int .i64 _) rfl) ?_
    refine X.opP (X.wG rfl rfl rfl) rfl rfl (X.gtr rfl rfl) (fun h8 => ?_) (fun h8 => ?_)
    · refine X.opw X.wN rfl (X.pickF (v := .bool true) rfl rfl) ?_
      refine X.opsEnd ?_
      refine X.condT rfl ?_
      refine X.seq ?_
      refine X.region ?_
      refine X.opw X.wN rfl (X.assign rfl) ?_
      refine X.opw X.wN rfl (X.assign rfl) ?_
      refine X.opsEnd ?_
      refine X.ret2 (v2 := (.int .i64 _)) Try.func6 Try.results6 rfl rfl ?_
      exact .inl ⟨by omega, rfl, (Keep.refl _)⟩
    · refine X.opw X.wN rfl (X.pickF (v := .bool false) rfl rfl) ?_
      refine X.opsEnd ?_
      refine X.condF rfl ?_
      refine X.skip ?_
      refine X.seq ?_
      refine X.region ?_
      refine X.opw X.wN rfl (X.move (v := .int .i64 _) rfl) ?_
      refine X.opE X.wN rfl (X.makeMapV (fun x : Int => Value.int .i64 x) (fun v : Value => v)) ?_
      rintro _ w1 ⟨rfl, hG1, hk1, hz1⟩
      refine X.opE X.wN rfl (X.makeMapV (fun x : ByteArray => Value.string x) (fun v : Int => Value.int .i64 v)) ?_
      rintro _ w2 ⟨rfl, hG2, hk2, hz2⟩
      refine X.opE X.wN rfl (X.makeMapV (fun x : ByteArray => Value.string x) (fun v : Int => Value.int .i64 v)) ?_
      rintro _ w3 ⟨rfl, hG3, hk3, hz3⟩
      refine X.opE X.wN rfl (X.makeMapV (fun x : Int × Int => Value.agg #[.int .i64 x.1, .int .i64 x.2]) (fun v : Bool => Value.bool v)) ?_
      rintro _ w4 ⟨rfl, hG4, hk4, hz4⟩
      refine X.opw X.wN rfl (X.buildB (vs := [(0, .int .i64 rm), (1, .map (some w.heap.size)), (3, .map (some w1.heap.size)), (4, .map (some w2.heap.size)), (6, .map (some w3.heap.size))]) (cs := #[.int .i64 rm, .map (some w.heap.size), .int .i64 0, .map (some w1.heap.size), .map (some w2.heap.size), .slice none 0 0, .map (some w3.heap.size), .bool false, .int .i64 0]) rfl (by kernel_rfl)) ?_
      refine X.opE X.wN rfl (X.boxE rfl rfl) ?_
      rintro _ w5 ⟨rfl, hB5, hk5, hz5⟩
      refine X.opw X.wN rfl (X.assign rfl) ?_
      refine X.opw X.wN rfl (X.assign rfl) ?_
      refine X.opsEnd ?_
      refine X.ret2 (v2 := (.int .i64 _)) Try.func6 Try.results6 rfl rfl ?_
      exact .inr ⟨by omega, w4.heap.size, w.heap.size, w1.heap.size, w2.heap.size, w3.heap.size, rfl, hB5, (hG1.keep (((hk2.trans hk3).trans hk4).trans hk5)), (hG2.keep ((hk3.trans hk4).trans hk5)), (hG3.keep (hk4.trans hk5)), (hG4.keep hk5), by omega, by omega, by omega, by omega, by omega, by omega, ((((hk1.trans hk2).trans hk3).trans hk4).trans hk5)⟩
end Go.Proofs.Ytcdebnppbnmmgaa

namespace Go.Proofs.Ytcdebnppbnmmgaa
open Go Go.Proofs.Ytcdebnppbnmmgaa.X
set_option linter.unusedVariables false
set_option linter.unusedSimpArgs false
-- f29 "(*pedigree/disk.Disk).named" params [26, 9] results [3, 71, 4] -> [(ResultVar.tmp 4), (ResultVar.tmp 5
set_option maxHeartbeats 4000000 in
set_option maxRecDepth 100000 in
theorem named_c {b bd bf : Nat} {rm mk lf : Int} {bx bl : Option Nat} {A : Option Addr} {n c : Nat} {fu : Bool} {d : DIR} {fm : List (Int × Value)} (nm : ByteArray) (w : World) (hB : Blk w b (dkL rm (some bf) mk (some bd) bx A n c bl fu lf) 60) (hG : MPD w bd d) (hF : MPF w bf fm) : Ret Try.prog 29 #[ptrV b, .string nm] w fun r w' => r = .tuple #[.int .i64 ((asc nm d).getD 0), (asc ((asc nm d).getD 0) fm).getD (.pointer none), .bool (asc nm d).isSome] ∧ Keep w w' := by
  refine X.enter Try.func29 rfl Try.ntmps29 rfl ?_
  refine X.seq ?_
  refine X.region ?_
  refine X.opw X.wN rfl (X.assign rfl) ?_
  refine X.opw X.wN rfl (X.assign rfl) ?_
  refine X.opw X.wN rfl (X.assign rfl) ?_
  refine X.opsEnd ?_
  refine X.seq ?_
  refine X.region ?_
  refine X.opw X.wN rfl (X.move rfl) ?_
  refine X.opw X.wN rfl (X.nilCk rfl) ?_
  refine X.opw X.wN rfl (X.fldB (j := 3) Try.underlying60 rfl rfl Try.sizeOf56 rfl) ?_
  refine X.opw X.wN rfl (X.load1B Try.isAgg56 hB rfl rfl) ?_
  refine X.opw X.wN rfl (X.move (v := .string _) rfl) ?_
  refine X.opw X.wN rfl (X.lookupOkV (enc := (fun x : ByteArray => Value.string x)) (venc := (fun v : Int => Value.int .i64 v)) (z := 0) Try.underlying56 (keyStr Try.underlying9) Try.zeroValue3 hG rfl rfl) ?_
  refine X.opw X.wN rfl (X.move rfl) ?_
  refine X.opw X.wN rfl (X.extr rfl rfl) ?_
  refine X.opw X.wN rfl (X.extr rfl rfl) ?_
  refine X.opw X.wN rfl (X.assign (v := .int .i64 _) rfl) ?_
  refine X.opw X.wN rfl (X.assign (v := .bool _) rfl) ?_
  refine X.opsEnd ?_
  refine X.seq ?_
  refine X.regionD (fun _ => False) 10 (by kernel_rfl) (by kernel_rfl) (fun w1 hk1 hz1 => ?_)
  refine X.dTake 0 rfl (by kernel_rfl) (by kernel_rfl) (by kernel_rfl) (X.dwN rfl) (fun w' hk' => X.move (v := .int .i64 _) rfl) ?_
  refine X.dTake 1 rfl (by kernel_rfl) (by kernel_rfl) (by kernel_rfl) (X.dwN rfl) (fun w' hk' => X.move rfl) ?_
  refine X.dTake 2 rfl (by kernel_rfl) (by kernel_rfl) (by kernel_rfl) (X.dwN rfl) (fun w' hk' => X.nilCk rfl) ?_
  refine X.dTake 3 rfl (by kernel_rfl) (by kernel_rfl) (by kernel_rfl) (X.dwN rfl) (fun w' hk' => X.fldB (j := 1) Try.underlying60 rfl rfl Try.sizeOf55 rfl) ?_
  refine X.dTake 4 rfl (by kernel_rfl) (by kernel_rfl) (by kernel_rfl) (X.dwN rfl) (fun w' hk' => X.load1B Try.isAgg55 (hB.keep (hk1.trans hk')) rfl rfl) ?_
  refine X.dTake 5 rfl (by kernel_rfl) (by kernel_rfl) (by kernel_rfl) (X.dwN rfl) (fun w' hk' => X.move (v := .int .i64 _) rfl) ?_
  refine X.dTake 6 rfl (by kernel_rfl) (by kernel_rfl) (by kernel_rfl) (X.dwN rfl) (fun w' hk' => X.lookupV (enc := (fun x : Int => Value.int .i64 x)) (venc := (fun v : Value => v)) (z := (Value.pointer none)) Try.underlying55 (keyInt Try.underlying3) Try.zeroValue71 (hF.keep (hk1.trans hk')) rfl rfl) ?_
  refine X.dTake 7 rfl (by kernel_rfl) (by kernel_rfl) (by kernel_rfl) (X.dwN rfl) (fun w' hk' => X.move (v := .bool _) rfl) ?_
  refine X.dTake 8 rfl (by kernel_rfl) (by kernel_rfl) (by kernel_rfl) (X.dwN rfl) (fun w' hk' => X.assign (v := .int .i64 _) rfl) ?_
  refine X.dTake 9 rfl (by kernel_rfl) (by kernel_rfl) (by kernel_rfl) (X.dwN rfl) (fun w' hk' => X.assign rfl) ?_
  refine X.dStep (i := 10) (by kernel_rfl) rfl (X.dwN rfl) (X.assign (v := .bool _) rfl) (fun h => absurd h (by decide)) ?_
  refine X.dEnd (by kernel_rfl) ?_
  refine X.ret3 (v1 := (.int .i64 _)) (v3 := (.bool _)) Try.func29 Try.results29 rfl rfl rfl ?_
  exact ⟨rfl, hk1⟩
end Go.Proofs.Ytcdebnppbnmmgaa

namespace Go.Proofs.Ytcdebnppbnmmgaa
open Go Go.Proofs.Ytcdebnppbnmmgaa.X
set_option linter.unusedVariables false
set_option linter.unusedSimpArgs false
-- f19 "(*pedigree/disk.Disk).Fuse" params [26, 3] results [27] -> [(ResultVar.tmp 4)] nfree 0 ntmps 23 names 
set_option maxHeartbeats 4000000 in
set_option maxRecDepth 100000 in
theorem Fuse_c {b bd : Nat} {rm mk lf : Int} {bf bx bl : Option Nat} {A : Option Addr} {n c : Nat} {fu : Bool} (i : Int) (w : World) (hB : Blk w b (dkL rm bf mk (some bd) bx A n c bl fu lf) 60) : Ret Try.prog 19 #[ptrV b, .int .i64 i] w fun r w' => ((i < 0 ∨ 1048576 < i) ∧ r = .int .i64 5 ∧ Keep w w') ∨ (¬ (i < 0 ∨ 1048576 < i) ∧ r = .int .i64 0 ∧ Blk w' b (dkL rm bf mk (some bd) bx A n c bl true i) 60 ∧ Ext (fun q => q = b) w w') := by
  refine X.enter Try.func19 rfl Try.ntmps19 rfl ?_
  refine X.seq ?_
  refine X.region ?_
  refine X.opw X.wN rfl (X.assign rfl) ?_
  refine X.opsEnd ?_
  refine X.seq ?_
  refine X.block ?_
  refine X.seq ?_
  refine X.region ?_
  refine X.opw X.wN rfl (X.move rfl) ?_
  refine X.opE X.wN rfl (X.callE (is_c _ hB) Try.call36 rfl rfl) ?_
  rintro _ w1 ⟨rfl, hk1⟩
  have hk1' := hk1.size
  refine X.opw X.wN rfl (X.not_ rfl) ?_
  refine X.opw X.wN rfl (X.assign (v := .bool false) rfl) ?_
  refine X.opsEnd ?_
  refine X.condF rfl ?_
  refine X.seq ?_
  refine X.region ?_
  refine X.opw X.wN rfl (X.move (v := .int .i64 _) rfl) ?_
  refine X.opP X.wN rfl rfl (X.lss rfl rfl) (fun h11 => ?_) (fun h11 => ?_)
  · refine X.opw X.wN rfl (X.move (v := .bool true) rfl) ?_
    refine X.opS rfl rfl rfl rfl rfl ?_
    refine X.opS rfl rfl rfl rfl rfl ?_
    refine X.opw X.wN rfl (X.pickT (v := .bool true) rfl rfl) ?_
    refine X.opw X.wN rfl (X.assign (v := .bool true) rfl) ?_
    refine X.opsEnd ?_
    refine X.condT rfl ?_
    refine X.seq ?_
    refine X.region ?_
    refine X.opw X.wN rfl (X.assign rfl) ?_
    refine X.opsEnd ?_
    refine X.ret1 (v := (.int .i64 _)) Try.func19 Try.results19 rfl ?_
    exact .inl ⟨by omega, rfl, hk1⟩
  · refine X.opw X.wN rfl (X.move (v := .bool false) rfl) ?_
    refine X.opw (X.wG rfl rfl rfl) rfl (X.move (v := .int .i64 _) rfl) ?_
    refine X.opP (X.wG rfl rfl rfl) rfl rfl (X.gtr rfl rfl) (fun h14 => ?_) (fun h14 => ?_)
    · refine X.opw X.wN rfl (X.pickF (v := .bool true) rfl rfl) ?_
      refine X.opw X.wN rfl (X.assign (v := .bool true) rfl) ?_
      refine X.opsEnd ?_
      refine X.condT rfl ?_
      refine X.seq ?_
      refine X.region ?_
      refine X.opw X.wN rfl (X.assign rfl) ?_
      refine X.opsEnd ?_
      refine X.ret1 (v := (.int .i64 _)) Try.func19 Try.results19 rfl ?_
      exact .inl ⟨by omega, rfl, hk1⟩
    · refine X.opw X.wN rfl (X.pickF (v := .bool false) rfl rfl) ?_
      refine X.opw X.wN rfl (X.assign (v := .bool false) rfl) ?_
      refine X.opsEnd ?_
      refine X.condF rfl ?_
      refine X.skip ?_
      refine X.inBlock ?_
      refine X.seq ?_
      refine X.region ?_
      refine X.opw X.wN rfl (X.move rfl) ?_
      refine X.opw X.wN rfl (X.move rfl) ?_
      refine X.opw X.wN rfl (X.move (v := .int .i64 _) rfl) ?_
      refine X.opw X.wN rfl (X.nilCk rfl) ?_
      refine X.opw X.wN rfl (X.fldB (j := 7) Try.underlying60 rfl rfl Try.sizeOf4 rfl) ?_
      refine X.opE X.wN rfl (X.storeE Try.sizeOf4 (hB.keep hk1) rfl rfl rfl rfl) ?_
      rintro _ w2 ⟨hB2, hx2, hz2⟩
      refine X.opw X.wN rfl (X.nilCk rfl) ?_
      refine X.opw X.wN rfl (X.fldB (j := 8) Try.underlying60 rfl rfl Try.sizeOf3 rfl) ?_
      refine X.opE X.wN rfl (X.storeE Try.sizeOf3 hB2 rfl rfl rfl rfl) ?_
      rintro _ w3 ⟨hB3, hx3, hz3⟩
      refine X.opsEnd ?_
      refine X.seq ?_
      refine X.region ?_
      refine X.opw X.wN rfl (X.assign rfl) ?_
      refine X.opsEnd ?_
      refine X.ret1 (v := (.int .i64 _)) Try.func19 Try.results19 rfl ?_
      exact .inr ⟨by omega, rfl, hB3, (Ext.andThen (Ext.andThen (Ext.andThen (Ext.refl (fun q => q = b) _) hk1 (by intro q h1 h2; first | exact (h2 : False).elim | exact h2)) hx2 (by intro q h1 h2; first | exact (h2 : False).elim | exact h2)) hx3 (by intro q h1 h2; first | exact (h2 : False).elim | exact h2))⟩
end Go.Proofs.Ytcdebnppbnmmgaa

namespace Go.Proofs.Ytcdebnppbnmmgaa
open Go Go.Proofs.Ytcdebnppbnmmgaa.X
set_option linter.unusedVariables false
set_option linter.unusedSimpArgs false
/-- A file's block: what it has, what is fixed. -/
abbrev fiL (A1 : Option Addr) (n1 c1 : Nat) (A2 : Option Addr) (n2 c2 : Nat) : List Value := [.slice A1 n1 c1, .slice A2 n2 c2]
-- f12 "(*pedigree/disk.Disk).Size" params [26, 9] results [3, 27] -> [(ResultVar.tmp 4), (ResultVar.tmp 5)] n
set_option maxHeartbeats 4000000 in
set_option maxRecDepth 100000 in
theorem Size_c {b bd bf : Nat} {rm mk lf : Int} {bx bl : Option Nat} {A : Option Addr} {n c : Nat} {fu : Bool} {d : DIR} {fm : List (Int × Value)} (nm : ByteArray) (w : World) (hB : Blk w b (dkL rm (some bf) mk (some bd) bx A n c bl fu lf) 60) (hG : MPD w bd d) (hF : MPF w bf fm) (hfl : ∀ k, asc nm d = some k → ∃ pf A1 n1 c1 A2 n2 c2, asc k fm = some (.pointer (some ⟨pf, 0, none⟩)) ∧ Blk w pf (fiL A1 n1 c1 A2 n2 c2) 73) : Ret Try.prog 12 #[ptrV b, .string nm] w fun r w' => ((asc nm d = none ∧ r = .tuple #[.int .i64 0, .int .i64 52]) ∨ ∃ k pf A1 n1 c1 A2 n2 c2, asc nm d = some k ∧ asc k fm = some (.pointer (some ⟨pf, 0, none⟩)) ∧ Blk w pf (fiL A1 n1 c1 A2 n2 c2) 73 ∧ r = .tuple #[.int .i64 (n1 : Int), .int .i64 0]) ∧ Keep w w' := by
  refine X.enter Try.func12 rfl Try.ntmps12 rfl ?_
  refine X.seq ?_
  refine X.region ?_
  refine X.opw X.wN rfl (X.assign rfl) ?_
  refine X.opw X.wN rfl (X.assign rfl) ?_
  refine X.opsEnd ?_
  refine X.seq ?_
  refine X.seq ?_
  refine X.region ?_
  refine X.opw X.wN rfl (X.move rfl) ?_
  refine X.opE X.wN rfl (X.callE (is_c _ hB) Try.call36 rfl rfl) ?_
  rintro _ w1 ⟨rfl, hk1⟩
  have hk1' := hk1.size
  refine X.opw X.wN rfl (X.not_ rfl) ?_
  refine X.opsEnd ?_
  refine X.condF rfl ?_
  refine X.skip ?_
  refine X.seq ?_
  refine X.region ?_
  refine X.opw X.wN rfl (X.move rfl) ?_
  refine X.opw X.wN rfl (X.move (v := .string _) rfl) ?_
  refine X.opE X.wN rfl (X.callE (named_c nm _ (hB.keep hk1) (hG.keep hk1) (hF.keep hk1)) Try.call29 rfl rfl) ?_
  rintro _ w2 ⟨rfl, hk2⟩
  have hk2' := hk2.size
  refine X.opw X.wN rfl (X.move rfl) ?_
  refine X.opw X.wN rfl (X.extr rfl rfl) ?_
  refine X.opw X.wN rfl (X.extr rfl rfl) ?_
  refine X.opw X.wN rfl (X.extr rfl rfl) ?_
  refine X.opw X.wN rfl (X.assign (v := .int .i64 _) rfl) ?_
  refine X.opw X.wN rfl (X.assign rfl) ?_
  refine X.opw X.wN rfl (X.assign (v := .bool _) rfl) ?_
  refine X.opsEnd ?_
  refine X.seq ?_
  refine X.seq ?_
  refine X.region ?_
  refine X.opw X.wN rfl (X.move (v := .bool _) rfl) ?_
  refine X.opw X.wN rfl (X.not_ rfl) ?_
  refine X.opsEnd ?_
  refine X.condB rfl (fun hc => ?_) (fun hc => ?_)
  · have hno : asc nm d = none := by
      cases ha : asc nm d with
      | none => rfl
      | some k => rw [ha] at hc; simp at hc
    refine X.seq ?_
    refine X.region ?_
    refine X.opw X.wN rfl (X.assign rfl) ?_
    refine X.opw X.wN rfl (X.assign rfl) ?_
    refine X.opsEnd ?_
    refine X.ret2 (v1 := (.int .i64 _)) (v2 := (.int .i64 _)) Try.func12 Try.results12 rfl rfl ?_
    exact ⟨.inl ⟨hno, rfl⟩, (hk1.trans hk2)⟩
  · obtain ⟨k, hfa⟩ : ∃ k, asc nm d = some k := by
      cases ha : asc nm d with
      | none => rw [ha] at hc; simp at hc
      | some k => exact ⟨k, rfl⟩
    obtain ⟨pf, A1, n1, c1, A2, n2, c2, hfb, hBf⟩ := hfl k hfa
    rw [hfa, Option.getD_some, hfb, Option.getD_some]
    refine X.skip ?_
    refine X.seq ?_
    refine X.region ?_
    refine X.opw X.wN rfl (X.move rfl) ?_
    refine X.opw X.wN rfl (X.nilCk rfl) ?_
    refine X.opw X.wN rfl (X.fldB (j := 0) Try.underlying73 rfl rfl Try.sizeOf22 rfl) ?_
    refine X.opw X.wN rfl (X.load1B Try.isAgg22 (hBf.keep (hk1.trans hk2)) rfl rfl) ?_
    refine X.opw X.wN rfl (X.lenSl Try.underlying22 rfl) ?_
    refine X.opw X.wN rfl (X.assign (v := .int .i64 _) rfl) ?_
    refine X.opw X.wN rfl (X.assign rfl) ?_
    refine X.opsEnd ?_
    refine X.ret2 (v1 := (.int .i64 _)) (v2 := (.int .i64 _)) Try.func12 Try.results12 rfl rfl ?_
    exact ⟨.inr ⟨k, pf, A1, n1, c1, A2, n2, c2, rfl, hfb, hBf, rfl⟩, (hk1.trans hk2)⟩
end Go.Proofs.Ytcdebnppbnmmgaa

namespace Go.Proofs.Ytcdebnppbnmmgaa
open Go Go.Proofs.Ytcdebnppbnmmgaa.X
set_option linter.unusedVariables false
set_option linter.unusedSimpArgs false
/-- What a name costs. -/
def cost (sz : Int → Nat) (d : DIR) (k : ByteArray) : Nat := (sz ((asc k d).getD 0) + 63) / 64
def costs (sz : Int → Nat) (d : DIR) : Nat := ((d.map (·.1)).map (cost sz d)).sum
theorem costs_of {sz : Int → Nat} {d : DIR} {ds : List ByteArray} (h1 : (d.map (·.1)).Nodup) (h2 : ds.Nodup) (h3 : ∀ k, k ∈ ds ↔ k ∈ d.map (·.1)) : (ds.map (cost sz d)).sum = costs sz d :=
  (((List.perm_ext_iff_of_nodup h2 h1).2 h3).map _).sum_nat
theorem nodup_len {α : Type} [DecidableEq α] {ds ks : List α} (h2 : ds.Nodup) (h3 : ∀ k, k ∈ ds → k ∈ ks) : ds.length ≤ ks.length := by
  induction ds generalizing ks with
  | nil => simp
  | cons a ds ih =>
    obtain ⟨h4, h5⟩ := List.nodup_cons.1 h2
    have ha := h3 a List.mem_cons_self
    have := ih (ks := @List.erase α instBEqOfDecidableEq ks a) h5 (fun k hk => (List.mem_erase_of_ne (show k ≠ a from fun e => h4 (by rw [← e]; exact hk))).2 (h3 k (List.mem_cons_of_mem _ hk)))
    rw [List.length_erase_of_mem ha] at this
    have : 0 < ks.length := List.length_pos_of_mem ha
    rw [List.length_cons]; omega
end Go.Proofs.Ytcdebnppbnmmgaa

namespace Go.Proofs.Ytcdebnppbnmmgaa
open Go Go.Proofs.Ytcdebnppbnmmgaa.X
set_option linter.unusedVariables false
set_option linter.unusedSimpArgs false
abbrev FILE := List UInt8 × List UInt8
/-- A disk: room, files, directory, what is fixed of it, changes, loose sectors, a fuse. -/
structure DS where
  rm : Int
  fs : List FILE
  dir : DIR
  fx : DIR
  chs : List CHG
  ls : List ((Int × Int) × Bool)
  fu : Bool
  lf : Int
/-- The map of the files, of their blocks. -/
def fmapF : Nat → List Nat → List (Int × Value)
  | _, [] => []
  | i, p :: pt => ((i : Int), ptrV p) :: fmapF (i + 1) pt
theorem fmapF_asc (k : Int) : ∀ (pt : List Nat) (i : Nat), asc k (fmapF i pt) = if (i : Int) ≤ k then (pt[(k - i).toNat]?).map ptrV else none
  | [], i => by simp [fmapF, asc]
  | p :: pt, i => by
    rw [fmapF, asc, fmapF_asc k pt (i + 1)]
    by_cases h : k = (i : Int)
    · subst h; simp
    · rw [if_neg h]
      by_cases h1 : (i : Int) ≤ k
      · rw [if_pos (by omega), if_pos h1]
        have : (k - (i : Int)).toNat = (k - ((i + 1 : Nat) : Int)).toNat + 1 := by omega
        rw [this, List.getElem?_cons_succ]
      · rw [if_neg (by omega), if_neg h1]
theorem fmapF_put (p : Nat) : ∀ (pt : List Nat) (i : Nat), put ((i + pt.length : Nat) : Int) (ptrV p) (fmapF i pt) = fmapF i (pt ++ [p])
  | [], i => by simp [fmapF, put]
  | q :: pt, i => by
    rw [fmapF, put, if_neg (by simp; omega), List.cons_append, fmapF]
    have := fmapF_put p pt (i + 1)
    rw [show i + 1 + pt.length = i + (q :: pt).length by simp; omega] at this
    rw [this]
theorem fmap_at {pt : List Nat} {k p : Nat} (h : pt[k]? = some p) : asc (k : Int) (fmapF 0 pt) = some (ptrV p) := by
  rw [fmapF_asc, if_pos (by omega)]
  simp [h]
/-- A file: its block, its two rows. -/
def FlR (col : Nat → Nat) (w : World) (k p : Nat) (f : FILE) : Prop := col p = 7 + 3 * k ∧ ∃ A1 n1 c1 A2 n2 c2, Blk w p (fiL A1 n1 c1 A2 n2 c2) 73 ∧ Row KB 5 (fun q => col q = 8 + 3 * k) 0 0 w (.slice A1 n1 c1) f.1 ∧ Mine KB 5 (fun q => col q = 9 + 3 * k) 0 0 w (.slice A2 n2 c2) f.2
/-- The disk in block b, part by part. -/
structure DkB (col : Nat → Nat) (w : World) (b bf bd bx bl : Nat) (A : Option Addr) (n c : Nat) (pt : List Nat) (s : DS) : Prop where
  B : Blk w b (dkL s.rm (some bf) (s.fs.length : Int) (some bd) (some bx) A n c (some bl) s.fu s.lf) 60
  F : MPF w bf (fmapF 0 pt)
  G : MPD w bd s.dir
  X : MPD w bx s.fx
  L : MPL w bl s.ls
  M : Mine KCh 76 (fun q => col q = 6) 0 0 w (.slice A n c) s.chs
  cb : col b = 1
  cf : col bf = 2
  cd : col bd = 3
  cx : col bx = 4
  cl : col bl = 5
  lt : ∀ q, col q ≠ 0 → q < w.heap.size
  pl : pt.length = s.fs.length
  fl : ∀ k p f, pt[k]? = some p → s.fs[k]? = some f → FlR col w k p f
def DkR (col : Nat → Nat) (w : World) (b : Nat) (s : DS) : Prop := ∃ bf bd bx bl A n c pt, DkB col w b bf bd bx bl A n c pt s
theorem DkB.r {col : Nat → Nat} {w : World} {b bf bd bx bl : Nat} {A : Option Addr} {n c : Nat} {pt : List Nat} {s : DS} (h : DkB col w b bf bd bx bl A n c pt s) : DkR col w b s := ⟨bf, bd, bx, bl, A, n, c, pt, h⟩
/-- From world to world: only the disk's blocks have turned. -/
structure Stp (col : Nat → Nat) (w : World) (col' : Nat → Nat) (w' : World) : Prop where
  old : ∀ q, q < w.heap.size → col' q = col q
  ext : Ext (fun q => col q ≠ 0) w w'
theorem Stp.refl (col : Nat → Nat) (w : World) : Stp col w col w := ⟨fun _ _ => rfl, Ext.refl _ _⟩
theorem Stp.trans {c1 c2 c3 : Nat → Nat} {w1 w2 w3 : World} (h : Stp c1 w1 c2 w2) (h' : Stp c2 w2 c3 w3) : Stp c1 w1 c3 w3 :=
  ⟨fun q hq => (h'.old q (Nat.lt_of_lt_of_le hq h.ext.size)).trans (h.old q hq), Ext.trans h.ext h'.ext (fun _ _ x => x) (fun q hq x => by rw [← h.old q hq]; exact x)⟩
theorem Stp.keep {col : Nat → Nat} {w w' : World} (h : Keep w w') : Stp col w col w' := ⟨fun _ _ => rfl, h.mono fun _ _ h => h.elim⟩
theorem Keep.dk {col col' : Nat → Nat} {w w1 w' : World} (h : Keep w w1) (h' : Stp col w1 col' w') : Stp col w col' w' := (Stp.keep h).trans h'
section
variable {col col' : Nat → Nat} {w w' : World} {b bf bd bx bl : Nat} {A : Option Addr} {n c : Nat} {pt : List Nat} {s : DS}
theorem FlR.ext {k p : Nat} {f : FILE} (h : FlR col w k p f) {T : Nat → Prop} (x : Ext T w w') (hc : ∀ q, q < w.heap.size → col' q = col q) (hT : ∀ q, q < w.heap.size → T q → col q ≠ 7 + 3 * k ∧ col q ≠ 8 + 3 * k ∧ col q ≠ 9 + 3 * k) : FlR col' w' k p f := by
  obtain ⟨h0, A1, n1, c1, A2, n2, c2, h1, h2, h3⟩ := h
  have cut : ∀ (v : Value) (xs : List UInt8) (j : Nat), (j = 8 + 3 * k ∨ j = 9 + 3 * k) → Mine KB 5 (fun q => col q = j) 0 0 w v xs → Mine KB 5 (fun q => col' q = j) 0 0 w' v xs := fun v xs j hj hm =>
    ((hm.mono (T := fun q => col' q = j ∧ q < w.heap.size) (fun q hq h => ⟨(hc q hq).trans h, hq⟩)).ext x (by omega) (fun q hq ht => by have := hT q hq.2 ht; have := hc q hq.2; omega)).mono (fun _ _ h => h.1)
  have cutR : ∀ (v : Value) (xs : List UInt8) (j : Nat), (j = 8 + 3 * k ∨ j = 9 + 3 * k) → Row KB 5 (fun q => col q = j) 0 0 w v xs → Row KB 5 (fun q => col' q = j) 0 0 w' v xs := fun v xs j hj hm =>
    ((hm.mono (T := fun q => col' q = j ∧ q < w.heap.size) (fun q hq h => ⟨(hc q hq).trans h, hq⟩)).ext x (by omega) (fun q hq ht => by have := hT q hq.2 ht; have := hc q hq.2; omega)).mono (fun _ _ h => h.1)
  exact ⟨(hc p h1.lt).trans h0, A1, n1, c1, A2, n2, c2, h1.ext x (fun ht => (hT p h1.lt ht).1 h0), cutR _ _ _ (.inl rfl) h2, cut _ _ _ (.inr rfl) h3⟩
/-- What is not turned stands; V: the numbers of what may have turned. -/
structure DkP (V : Nat → Prop) (col : Nat → Nat) (w : World) (b bf bd bx bl : Nat) (A : Option Addr) (n c : Nat) (pt : List Nat) (s : DS) : Prop where
  B : ¬ V 1 → Blk w b (dkL s.rm (some bf) (s.fs.length : Int) (some bd) (some bx) A n c (some bl) s.fu s.lf) 60
  F : ¬ V 2 → MPF w bf (fmapF 0 pt)
  G : ¬ V 3 → MPD w bd s.dir
  X : ¬ V 4 → MPD w bx s.fx
  L : ¬ V 5 → MPL w bl s.ls
  M : ¬ V 6 → Mine KCh 76 (fun q => col q = 6) 0 0 w (.slice A n c) s.chs
  cb : col b = 1
  cf : col bf = 2
  cd : col bd = 3
  cx : col bx = 4
  cl : col bl = 5
  pl : pt.length = s.fs.length
  fl : ∀ k p f, pt[k]? = some p → s.fs[k]? = some f → (∀ j, 7 + 3 * k ≤ j → j ≤ 9 + 3 * k → ¬ V j) → FlR col w k p f
theorem DkB.part (h : DkB col w b bf bd bx bl A n c pt s) (V : Nat → Prop) {T : Nat → Prop} (x : Ext T w w') (hc : ∀ q, q < w.heap.size → col' q = col q) (hT : ∀ q, q < w.heap.size → T q → V (col q)) : DkP V col' w' b bf bd bx bl A n c pt s := by
  refine ⟨fun v => h.B.ext x fun t => v ?_, fun v => h.F.ext x fun t => v ?_, fun v => h.G.ext x fun t => v ?_, fun v => h.X.ext x fun t => v ?_, fun v => h.L.ext x fun t => v ?_, fun v => ?_, (hc b h.B.lt).trans h.cb, (hc bf h.F.lt).trans h.cf, (hc bd h.G.lt).trans h.cd, (hc bx h.X.lt).trans h.cx, (hc bl h.L.lt).trans h.cl, h.pl, fun k p f h1 h2 hv => ?_⟩
  · have := hT _ h.B.lt t; rwa [h.cb] at this
  · have := hT _ h.F.lt t; rwa [h.cf] at this
  · have := hT _ h.G.lt t; rwa [h.cd] at this
  · have := hT _ h.X.lt t; rwa [h.cx] at this
  · have := hT _ h.L.lt t; rwa [h.cl] at this
  · exact ((h.M.mono (T := fun q => col' q = 6 ∧ q < w.heap.size) (fun q hq h => ⟨(hc q hq).trans h, hq⟩)).ext x (by omega) (fun q hq ht => v (by have := hT q hq.2 ht; rwa [← hc q hq.2, hq.1] at this))).mono (fun _ _ h => h.1)
  · exact (h.fl k p f h1 h2).ext x hc fun q hq ht => by
      have h3 := hT q hq ht
      refine ⟨fun e => ?_, fun e => ?_, fun e => ?_⟩ <;> rw [e] at h3
      · exact hv _ (by omega) (by omega) h3
      · exact hv _ (by omega) (by omega) h3
      · exact hv _ (by omega) (by omega) h3
theorem DkB.ext (h : DkB col w b bf bd bx bl A n c pt s) {T : Nat → Prop} (x : Ext T w w') (hT : ∀ q, col q ≠ 0 → ¬ T q) : DkB col w' b bf bd bx bl A n c pt s := by
  have p := h.part (fun v => v = 0) x (fun _ _ => rfl) (fun q _ t => Classical.byContradiction fun e => hT q e t)
  exact ⟨p.B (by decide), p.F (by decide), p.G (by decide), p.X (by decide), p.L (by decide), p.M (by decide), p.cb, p.cf, p.cd, p.cx, p.cl, fun q hq => Nat.lt_of_lt_of_le (h.lt q hq) x.size, p.pl, fun k q f h1 h2 => p.fl k q f h1 h2 (fun j _ _ => by omega)⟩
theorem DkB.ne (h : DkB col w b bf bd bx bl A n c pt s) : b ≠ bf ∧ b ≠ bd ∧ b ≠ bx ∧ b ≠ bl ∧ bf ≠ bd ∧ bf ≠ bx ∧ bf ≠ bl ∧ bd ≠ bx ∧ bd ≠ bl ∧ bx ≠ bl := by
  have h1 := h.cb
  have h2 := h.cf
  have h3 := h.cd
  have h4 := h.cx
  have h5 := h.cl
  refine ⟨?_, ?_, ?_, ?_, ?_, ?_, ?_, ?_, ?_, ?_⟩ <;> (intro e; subst e; omega)
theorem DkB.keep (h : DkB col w b bf bd bx bl A n c pt s) (x : Keep w w') : DkB col w' b bf bd bx bl A n c pt s := h.ext x fun _ _ t => t
theorem DkR.ext (h : DkR col w b s) {T : Nat → Prop} (x : Ext T w w') (hT : ∀ q, col q ≠ 0 → ¬ T q) : DkR col w' b s := let ⟨bf, bd, bx, bl, A, n, c, pt, h⟩ := h; ⟨bf, bd, bx, bl, A, n, c, pt, h.ext x hT⟩
theorem DkR.keep (h : DkR col w b s) (x : Keep w w') : DkR col w' b s := h.ext x fun _ _ t => t
theorem DkR.lt (h : DkR col w b s) : ∀ q, col q ≠ 0 → q < w.heap.size := let ⟨_, _, _, _, _, _, _, _, h⟩ := h; h.lt
theorem DkR.cb (h : DkR col w b s) : col b = 1 := let ⟨_, _, _, _, _, _, _, _, h⟩ := h; h.cb
end
/-- New blocks' numbers. -/
def rec' (col : Nat → Nat) (h h' v : Nat) : Nat → Nat := fun q => if q < h then col q else if q < h' then v else 0
theorem rec_old {col : Nat → Nat} {h h' v q : Nat} (hq : q < h) : rec' col h h' v q = col q := by rw [rec', if_pos hq]
theorem rec_new {col : Nat → Nat} {h h' v q : Nat} (hq : h ≤ q) (hq' : q < h') : rec' col h h' v q = v := by rw [rec', if_neg (by omega), if_pos hq']
theorem rec_lt {col : Nat → Nat} {h h' v q : Nat} (hl : ∀ q, col q ≠ 0 → q < h) (hh : h ≤ h') (hq : rec' col h h' v q ≠ 0) : q < h' := by
  rw [rec'] at hq
  split at hq
  · omega
  · split at hq
    · assumption
    · exact absurd rfl hq
/-- What may be. -/
structure DS.Ok (s : DS) : Prop where
  rm : 1 ≤ s.rm ∧ s.rm ≤ 1048576
  dir : ∀ p, p ∈ s.dir → 0 ≤ p.2 ∧ p.2 < s.fs.length ∧ p.1.size ≤ 64
  fx : ∀ p, p ∈ s.fx → 0 ≤ p.2 ∧ p.2 < s.fs.length ∧ p.1.size ≤ 64
  chs : ∀ c, c ∈ s.chs → c.1 = ⟨#[]⟩ → 0 ≤ c.2.2 ∧ c.2.2 < s.fs.length
  chn : ∀ c, c ∈ s.chs → c.2.1 ≠ ⟨#[]⟩ → 0 ≤ c.2.2 ∧ c.2.2 < s.fs.length ∧ c.2.1.size ≤ 64
  fs : ∀ f, f ∈ s.fs → f.1.length ≤ 1048576 ∧ f.2.length ≤ 1048576
  few : s.dir.length ≤ 256
  fewx : s.fx.length ≤ 256
  lf : 0 ≤ s.lf ∧ s.lf ≤ 1048576
  nd : (s.dir.map (·.1)).Nodup
  ndx : (s.fx.map (·.1)).Nodup
def DS.size (s : DS) : Nat := s.fs.length + s.chs.length
def DS.down (s : DS) : Bool := s.fu && decide (s.lf ≤ 0)
def DS.did (s : DS) : DS := { s with lf := if s.fu = true then s.lf - 1 else s.lf }
def DS.note (c : CHG) (s : DS) : DS := { s with dir := trn c s.dir, chs := s.chs ++ [c] }
def rightN (nm : ByteArray) : Bool := decide (nm ≠ ⟨#[]⟩ ∧ nm.size ≤ 64)
end Go.Proofs.Ytcdebnppbnmmgaa

namespace Go.Proofs.Ytcdebnppbnmmgaa
open Go Go.Proofs.Ytcdebnppbnmmgaa.X
set_option linter.unusedVariables false
set_option linter.unusedSimpArgs false
def flen (fs : List FILE) (k : Int) : Nat := (fs.getD k.toNat ([], [])).1.length
/-- How many sectors all files take. -/
def DS.used (s : DS) : Nat := costs (flen s.fs) s.dir
theorem DkB.at_ {col : Nat → Nat} {w : World} {b bf bd bx bl : Nat} {A : Option Addr} {n c : Nat} {pt : List Nat} {s : DS} (h : DkB col w b bf bd bx bl A n c pt s) {k : Int} (h0 : 0 ≤ k) (hk : k < s.fs.length) : ∃ p f A1 n1 c1 A2 n2 c2, asc k (fmapF 0 pt) = some (ptrV p) ∧ pt[k.toNat]? = some p ∧ s.fs[k.toNat]? = some f ∧ n1 = f.1.length ∧ n2 = f.2.length ∧ flen s.fs k = n1 ∧ col p = 7 + 3 * k.toNat ∧ Blk w p (fiL A1 n1 c1 A2 n2 c2) 73 ∧ Row KB 5 (fun q => col q = 8 + 3 * k.toNat) 0 0 w (.slice A1 n1 c1) f.1 ∧ Mine KB 5 (fun q => col q = 9 + 3 * k.toNat) 0 0 w (.slice A2 n2 c2) f.2 := by
  have hl : k.toNat < s.fs.length := by omega
  have hp : k.toNat < pt.length := by rw [h.pl]; exact hl
  obtain ⟨h1, A1, n1, c1, A2, n2, c2, h2, h3, h4⟩ := h.fl k.toNat _ _ (List.getElem?_eq_getElem hp) (List.getElem?_eq_getElem hl)
  refine ⟨_, _, A1, n1, c1, A2, n2, c2, ?_, List.getElem?_eq_getElem hp, List.getElem?_eq_getElem hl, h3.len.symm, h4.len.symm, ?_, h1, h2, h3, h4⟩
  · rw [fmapF_asc, if_pos (by omega)]
    rw [show (k - ((0 : Nat) : Int)).toNat = k.toNat by omega, List.getElem?_eq_getElem hp]; rfl
  · rw [← h3.len, flen, List.getD_eq_getElem?_getD, List.getElem?_eq_getElem hl]; rfl
theorem DS.Ok.len {s : DS} (h : s.Ok) {k : Int} {f : FILE} (hf : s.fs[k.toNat]? = some f) : f.1.length ≤ 1048576 ∧ f.2.length ≤ 1048576 := h.fs f (List.mem_of_getElem? hf)
theorem DS.Ok.flen {s : DS} (h : s.Ok) (k : Int) : flen s.fs k ≤ 1048576 := by
  rw [Go.Proofs.Ytcdebnppbnmmgaa.flen, List.getD_eq_getElem?_getD]
  cases hf : s.fs[k.toNat]? with
  | none => simp
  | some f => exact (h.len hf).1
theorem costs_le {sz : Int → Nat} {d : DIR} (h : ∀ k, sz k ≤ 1048576) : ∀ ds : List ByteArray, (ds.map (cost sz d)).sum ≤ ds.length * 16384
  | [] => by simp
  | a :: ds => by
    have := costs_le (d := d) h ds
    have h2 : cost sz d a ≤ 16384 := by have := h ((asc a d).getD 0); rw [cost]; omega
    simp only [List.map_cons, List.sum_cons, List.length_cons]; omega
theorem DS.Ok.used {s : DS} (h : s.Ok) : s.used ≤ 256 * 16384 := by
  have := costs_le (d := s.dir) h.flen (s.dir.map (·.1))
  have h2 := h.few
  rw [List.length_map] at this
  exact Nat.le_trans this (Nat.mul_le_mul_right _ h2)
-- f30 "(*pedigree/disk.Disk).used" params [26] results [3] -> [(ResultVar.tmp 2)] nfree 0 ntmps 29 names ["d"
set_option maxHeartbeats 4000000 in
set_option maxRecDepth 100000 in
theorem used_c {col : Nat → Nat} {b bf bd bx bl : Nat} {A : Option Addr} {n c : Nat} {pt : List Nat} {s0 : DS} (w : World) (h : DkB col w b bf bd bx bl A n c pt s0) (hok : s0.Ok) : Ret Try.prog 30 #[ptrV b] w fun r w' => r = .int .i64 (s0.used : Int) ∧ Keep w w' := by
  have hbd := h.G.lt
  have hbb := h.B.lt
  have hbf := h.F.lt
  refine X.enter Try.func30 rfl Try.ntmps30 rfl ?_
  refine X.seq ?_
  refine X.region ?_
  refine X.opw X.wN rfl (X.assign rfl) ?_
  refine X.opsEnd ?_
  refine X.seq ?_
  refine X.region ?_
  refine X.opw X.wN rfl (X.assign rfl) ?_
  refine X.opsEnd ?_
  refine X.seq ?_
  refine X.seq ?_
  refine X.region ?_
  refine X.opw X.wN rfl (X.move rfl) ?_
  refine X.opw X.wN rfl (X.nilCk rfl) ?_
  refine X.opw X.wN rfl (X.fldB (j := 3) Try.underlying60 rfl rfl Try.sizeOf56 rfl) ?_
  refine X.opw X.wN rfl (X.load1B Try.isAgg56 h.B rfl rfl) ?_
  refine X.opE X.wN rfl (X.rangeE (enc := (fun x : ByteArray => Value.string x)) Try.underlying56 h.G rfl) ?_
  rintro _ w1 ⟨rfl, hI1, hk1, hz1⟩
  refine X.opsEnd ?_
  refine X.block ?_
  -- LOOP live: 0=d, 3=n*, 10
  refine X.loopL (σ := List ByteArray × Int) (fun s => [(0, ptrV b), (3, .int .i64 s.2), (10, .pointer (some ⟨w.heap.size, 0, none⟩))]) (fun s w' => It (fun x : ByteArray => Value.string x) w' w.heap.size bd (mv (fun v : Int => Value.int .i64 v) s0.dir) s.1 ∧ s.2 = (((s.1.map (cost (flen s0.fs) s0.dir)).sum : Nat) : Int) ∧ s.1.Nodup ∧ (∀ k, k ∈ s.1 → k ∈ s0.dir.map (·.1)) ∧ Keep w w') (fun s => s0.dir.length + 1 - s.1.length) ([], 0) ⟨rfl, rfl, rfl, trivial⟩ ⟨hI1, rfl, List.nodup_nil, fun _ h => (by simp at h), hk1⟩ ?_
  rintro ⟨ds, nn⟩ e w1 ⟨hI, hn, hnd, hin, hk⟩ hback
  dsimp only at hn hnd hin hI ⊢
  have hk' := hk.size
  have hle := costs_le (d := s0.dir) hok.flen ds
  have hdl := nodup_len hnd hin
  rw [List.length_map] at hdl
  have hfew := hok.few
  refine X.seq ?_
  refine X.region ?_
  refine X.opE X.wN rfl (X.nextE hI rfl) ?_
  rintro _ w2 (⟨rfl, hall2, rfl⟩ | ⟨p2, hp2, hpn2, rfl, hI2, hx2, hz2⟩)
  · 
    refine X.opw X.wN rfl (X.extr rfl rfl) ?_
    refine X.opsEnd ?_
    refine X.seq ?_
    refine X.condF rfl ?_
    refine X.exit rfl ?_
    refine X.seq ?_
    refine X.region ?_
    refine X.opw X.wN rfl (X.move (v := .int .i64 _) rfl) ?_
    refine X.opw X.wN rfl (X.assign (v := .int .i64 _) rfl) ?_
    refine X.opsEnd ?_
    refine X.ret1 (v := (.int .i64 _)) Try.func30 Try.results30 rfl ?_
    have hall : ∀ k, k ∈ s0.dir.map (·.1) → k ∈ ds := fun k hm => by
      obtain ⟨q, hq, rfl⟩ := List.mem_map.1 hm
      exact hall2 (q.1, .int .i64 q.2) (List.mem_map.2 ⟨q, hq, rfl⟩)
    have e0 := costs_of (sz := flen s0.fs) hok.nd hnd (fun k => ⟨hin k, hall k⟩)
    rw [DS.used, ← e0, ← hn]
    exact ⟨rfl, hk⟩
  · have hx2' := hx2.size
    obtain ⟨q, hq, rfl⟩ : ∃ q : ByteArray × Int, q ∈ s0.dir ∧ p2 = (q.1, Value.int .i64 q.2) := by
      obtain ⟨q, hq, e⟩ := List.mem_map.1 hp2
      exact ⟨q, hq, e.symm⟩
    obtain ⟨hq0, hq1, _⟩ := hok.dir q hq
    obtain ⟨fp, f, A1, n1, c1, A2, n2, c2, ha, _, hf, hn1, _, hfl, _, hBf, _, _⟩ := h.at_ hq0 hq1
    have hfn := (hok.len hf).1
    have hasc : asc q.1 s0.dir = some q.2 := asc_mem hok.nd hq
    refine X.opw X.wN rfl (X.extr rfl rfl) ?_
    refine X.opsEnd ?_
    refine X.seq ?_
    refine X.condT rfl ?_
    refine X.skip ?_
    refine X.block ?_
    refine X.seq ?_
    refine X.region ?_
    refine X.opw X.wN rfl (X.entryE hI2 hp2 rfl) ?_
    refine X.opw X.wN rfl (X.extr rfl rfl) ?_
    refine X.opw X.wN rfl (X.assign (v := .int .i64 _) rfl) ?_
    refine X.opsEnd ?_
    refine X.region ?_
    refine X.opw X.wN rfl (X.move (v := .int .i64 _) rfl) ?_
    refine X.opw X.wN rfl (X.move rfl) ?_
    refine X.opw X.wN rfl (X.nilCk rfl) ?_
    refine X.opw X.wN rfl (X.fldB (j := 1) Try.underlying60 rfl rfl Try.sizeOf55 rfl) ?_
    refine X.opw X.wN rfl (X.load1B Try.isAgg55 (h.B.keep (hk.step hx2 (by intros; (try simp only [] at *); omega))) rfl rfl) ?_
    refine X.opw X.wN rfl (X.move (v := .int .i64 _) rfl) ?_
    refine X.opw X.wN rfl (X.lookupAt Try.underlying55 (keyInt Try.underlying3) Try.zeroValue71 (((h.F.keep hk).ext hx2 (by intro hh; have hh : _ = w.heap.size := hh; omega))) ha rfl rfl) ?_
    refine X.opw X.wN rfl (X.nilCk rfl) ?_
    refine X.opw X.wN rfl (X.fldB (j := 0) Try.underlying73 rfl rfl Try.sizeOf22 rfl) ?_
    refine X.opw X.wN rfl (X.load1B Try.isAgg22 (hBf.keep (hk.step hx2 (by intros; (try simp only [] at *); omega))) rfl rfl) ?_
    refine X.opw X.wN rfl (X.lenSl Try.underlying22 rfl) ?_
    refine X.opE X.wN rfl (X.callE (sectors_c _ _ (by omega)) Try.call31 rfl rfl) ?_
    rintro _ w3 ⟨rfl, hk3⟩
    have hk3' := hk3.size
    refine X.opw X.wN rfl (X.add rfl rfl (X.w_i64 (by omega))) ?_
    refine X.opw X.wN rfl (X.assign (v := .int .i64 _) rfl) ?_
    refine X.opsEnd ?_
    refine X.inBlock ?_
    refine hback (q.1 :: ds, _) _ _ ⟨rfl, rfl, rfl, trivial⟩ ⟨(hI2.keep hk3), ?_, List.nodup_cons.2 ⟨hpn2, hnd⟩, ?_, ((hk.step hx2 (by intros; (try simp only [] at *); omega)).trans hk3)⟩ ?_
    · show _ = ((((q.1 :: ds).map (cost (flen s0.fs) s0.dir)).sum : Nat) : Int)
      rw [List.map_cons, List.sum_cons, cost, hasc, Option.getD_some, hfl, hn]
      omega
    · intro k hk1
      rcases List.mem_cons.1 hk1 with rfl | hk1
      · exact List.mem_map.2 ⟨q, hq, rfl⟩
      · exact hin k hk1
    · have hnd2 : (q.1 :: ds).Nodup := List.nodup_cons.2 ⟨hpn2, hnd⟩
      have := nodup_len (ks := s0.dir.map (·.1)) hnd2 (fun k hk1 => by
        rcases List.mem_cons.1 hk1 with rfl | hk1
        · exact List.mem_map.2 ⟨q, hq, rfl⟩
        · exact hin k hk1)
      simp only [List.length_map, List.length_cons] at this ⊢
      omega
end Go.Proofs.Ytcdebnppbnmmgaa

namespace Go.Proofs.Ytcdebnppbnmmgaa
open Go Go.Proofs.Ytcdebnppbnmmgaa.X
set_option linter.unusedVariables false
set_option linter.unusedSimpArgs false
def DS.create (nm : ByteArray) (s : DS) : Int × DS :=
  if s.down = true then (54, s) else if rightN nm = false then (51, s) else if (asc nm s.dir).isSome = true then (50, s) else if 256 ≤ s.dir.length then (3, s)
  else (0, (({ s with fs := s.fs ++ [([], [])] } : DS).note (⟨#[]⟩, nm, (s.fs.length : Int))).did)
-- f7 "(*pedigree/disk.Disk).Create" params [26, 9] results [27] -> [(ResultVar.tmp 4)] nfree 0 ntmps 59 names
set_option maxHeartbeats 4000000 in
set_option maxRecDepth 100000 in
theorem Create_c {col : Nat → Nat} {b bf bd bx bl : Nat} {A : Option Addr} {n c : Nat} {pt : List Nat} {s0 : DS} (nm : ByteArray) (w : World) (h : DkB col w b bf bd bx bl A n c pt s0) (hok : s0.Ok) (hnm : nm.size ≤ 9223372036854775807) (hsz : s0.size ≤ 100000) : Ret Try.prog 7 #[ptrV b, .string nm] w fun r w' => r = .int .i64 (s0.create nm).1 ∧ ∃ col', DkR col' w' b (s0.create nm).2 ∧ Stp col w col' w' := by
  have hbl := h.B.lt
  have hfl := h.F.lt
  have hdl := h.G.lt
  have hxl := h.X.lt
  have hll := h.L.lt
  have hcb := h.cb
  have hcf := h.cf
  have hcd := h.cd
  have hcx := h.cx
  have hcl := h.cl
  obtain ⟨z1, z2, z3, z4, z5, z6, z7, z8, z9, z10⟩ := h.ne
  have hlt := h.lt
  have hok1 := hok.lf
  have hok2 := hok.few
  rw [DS.size] at hsz
  refine X.enter Try.func7 rfl Try.ntmps7 rfl ?_
  refine X.seq ?_
  refine X.region ?_
  refine X.opw X.wN rfl (X.assign rfl) ?_
  refine X.opsEnd ?_
  refine X.seq ?_
  refine X.seq ?_
  refine X.region ?_
  refine X.opw X.wN rfl (X.move rfl) ?_
  refine X.opE X.wN rfl (X.callE (may_c _ h.B) Try.call25 rfl rfl) ?_
  rintro _ w1 ⟨rfl, hk1⟩
  have hk1' := hk1.size
  refine X.opw X.wN rfl (X.assign (v := .int .i64 _) rfl) ?_
  refine X.opsEnd ?_
  refine X.seq ?_
  refine X.region ?_
  refine X.opw X.wN rfl (X.move (v := .int .i64 _) rfl) ?_
  refine X.opP X.wN rfl rfl (X.neI rfl rfl) (fun h11 => ?_) (fun h11 => ?_)
  · have hd : (s0.fu && decide (s0.lf ≤ 0)) = true := by
      cases hq : (s0.fu && decide (s0.lf ≤ 0)) with
      | true => rfl
      | false => rw [hq] at h11; simp at h11
    have hD : s0.down = true := hd
    refine X.opsEnd ?_
    refine X.condT rfl ?_
    refine X.seq ?_
    refine X.region ?_
    refine X.opw X.wN rfl (X.move (v := .int .i64 _) rfl) ?_
    refine X.opw X.wN rfl (X.assign (v := .int .i64 _) rfl) ?_
    refine X.opsEnd ?_
    refine X.ret1 (v := (.int .i64 _)) Try.func7 Try.results7 rfl ?_
    have e : s0.create nm = (54, s0) := by simp only [DS.create, if_pos hD]
    rw [e]
    exact ⟨by rw [if_pos hd], col, (h.keep hk1).r, Stp.keep hk1⟩
  · have hd : ¬ (s0.fu && decide (s0.lf ≤ 0)) = true := by
      cases hq : (s0.fu && decide (s0.lf ≤ 0)) with
      | false => simp
      | true => rw [hq] at h11; simp at h11
    have hD : ¬ s0.down = true := hd
    refine X.opsEnd ?_
    refine X.condF rfl ?_
    refine X.skip ?_
    refine X.seq ?_
    refine X.seq ?_
    refine X.region ?_
    refine X.opw X.wN rfl (X.move (v := .string _) rfl) ?_
    refine X.opE X.wN rfl (X.callE (right_c nm _ hnm) Try.call26 rfl rfl) ?_
    rintro _ w2 ⟨rfl, hk2⟩
    have hk2' := hk2.size
    refine X.opw X.wN rfl (X.not_ rfl) ?_
    refine X.opsEnd ?_
    refine X.condB rfl (fun hr0 => ?_) (fun hr0 => ?_)
    · have hr : rightN nm = false := by
        rw [rightN]
        cases hq : decide (nm ≠ ⟨#[]⟩ ∧ nm.size ≤ 64) with
        | false => rfl
        | true => rw [hq] at hr0; simp at hr0
      refine X.seq ?_
      refine X.region ?_
      refine X.opw X.wN rfl (X.assign rfl) ?_
      refine X.opsEnd ?_
      refine X.ret1 (v := (.int .i64 _)) Try.func7 Try.results7 rfl ?_
      have e : s0.create nm = (51, s0) := by simp only [DS.create, if_neg hD, if_pos hr]
      rw [e]
      exact ⟨rfl, col, (h.keep (hk1.trans hk2)).r, Stp.keep (hk1.trans hk2)⟩
    · have hr : ¬ rightN nm = false := by
        rw [rightN]
        cases hq : decide (nm ≠ ⟨#[]⟩ ∧ nm.size ≤ 64) with
        | true => simp
        | false => rw [hq] at hr0; simp at hr0
      refine X.skip ?_
      refine X.seq ?_
      refine X.seq ?_
      refine X.region ?_
      refine X.opw X.wN rfl (X.move rfl) ?_
      refine X.opw X.wN rfl (X.nilCk rfl) ?_
      refine X.opw X.wN rfl (X.fldB (j := 3) Try.underlying60 rfl rfl Try.sizeOf56 rfl) ?_
      refine X.opw X.wN rfl (X.load1B Try.isAgg56 (h.B.keep (hk1.trans hk2)) rfl rfl) ?_
      refine X.opw X.wN rfl (X.move (v := .string _) rfl) ?_
      refine X.opw X.wN rfl (X.lookupOkV (enc := (fun x : ByteArray => Value.string x)) (venc := (fun v : Int => Value.int .i64 v)) (z := 0) Try.underlying56 (keyStr Try.underlying9) Try.zeroValue3 (h.G.keep (hk1.trans hk2)) rfl rfl) ?_
      refine X.opw X.wN rfl (X.move rfl) ?_
      refine X.opw X.wN rfl (X.extr rfl rfl) ?_
      refine X.opw X.wN rfl (X.extr rfl rfl) ?_
      refine X.opw X.wN rfl (X.assign (v := .int .i64 _) rfl) ?_
      refine X.opw X.wN rfl (X.assign (v := .bool _) rfl) ?_
      refine X.opsEnd ?_
      refine X.seq ?_
      refine X.region ?_
      refine X.opw X.wN rfl (X.move (v := .bool _) rfl) ?_
      refine X.opsEnd ?_
      refine X.condB rfl (fun hth => ?_) (fun hth => ?_)
      · refine X.seq ?_
        refine X.region ?_
        refine X.opw X.wN rfl (X.assign rfl) ?_
        refine X.opsEnd ?_
        refine X.ret1 (v := (.int .i64 _)) Try.func7 Try.results7 rfl ?_
        have e : s0.create nm = (50, s0) := by simp only [DS.create, if_neg hD, if_neg hr, if_pos hth]
        rw [e]
        exact ⟨rfl, col, (h.keep (hk1.trans hk2)).r, Stp.keep (hk1.trans hk2)⟩
      · have hth : ¬ (asc nm s0.dir).isSome = true := by rw [hth]; decide
        refine X.skip ?_
        refine X.seq ?_
        refine X.seq ?_
        refine X.region ?_
        refine X.opw X.wN rfl (X.move rfl) ?_
        refine X.opw X.wN rfl (X.nilCk rfl) ?_
        refine X.opw X.wN rfl (X.fldB (j := 3) Try.underlying60 rfl rfl Try.sizeOf56 rfl) ?_
        refine X.opw X.wN rfl (X.load1B Try.isAgg56 (h.B.keep (hk1.trans hk2)) rfl rfl) ?_
        refine X.opw X.wN rfl (X.lenV Try.underlying56 (h.G.keep (hk1.trans hk2)) rfl) ?_
        refine X.opP X.wN rfl rfl (X.geq rfl rfl) (fun h31 => ?_) (fun h31 => ?_)
        · refine X.opsEnd ?_
          refine X.condT rfl ?_
          refine X.seq ?_
          refine X.region ?_
          refine X.opw X.wN rfl (X.assign rfl) ?_
          refine X.opsEnd ?_
          refine X.ret1 (v := (.int .i64 _)) Try.func7 Try.results7 rfl ?_
          have e : s0.create nm = (3, s0) := by simp only [DS.create, if_neg hD, if_neg hr, if_neg hth, if_pos (show 256 ≤ s0.dir.length by omega)]
          rw [e]
          exact ⟨rfl, col, (h.keep (hk1.trans hk2)).r, Stp.keep (hk1.trans hk2)⟩
        · refine X.opsEnd ?_
          refine X.condF rfl ?_
          refine X.skip ?_
          refine X.seq ?_
          refine X.regionD (fun k => w.heap.size ≤ k) 10 (by kernel_rfl) (by kernel_rfl) (fun w3 hk3 hz3 => ?_)
          refine X.dTake 0 rfl (by kernel_rfl) (by kernel_rfl) (by kernel_rfl) (X.dwN rfl) (fun w' hk' => X.move rfl) ?_
          refine X.dTake 1 rfl (by kernel_rfl) (by kernel_rfl) (by kernel_rfl) (X.dwN rfl) (fun w' hk' => X.nilCk rfl) ?_
          refine X.dTake 2 rfl (by kernel_rfl) (by kernel_rfl) (by kernel_rfl) (X.dwN rfl) (fun w' hk' => X.fldB (j := 1) Try.underlying60 rfl rfl Try.sizeOf55 rfl) ?_
          refine X.dTake 3 rfl (by kernel_rfl) (by kernel_rfl) (by kernel_rfl) (X.dwN rfl) (fun w' hk' => X.load1B Try.isAgg55 ((h.B.keep ((hk1.trans hk2).trans hk3)).ext hk' (by first | (intros; (try simp only [] at *); omega) | (intro hh; (try simp only [] at hh); omega) | (intro q h1 h2; (try simp only [] at h1 h2); have := hlt q (by omega); omega) | (intro hh; have hh : _ = _ := hh; subst hh; omega) | (intro q h1 h2; have h2 : q = _ := h2; subst h2; (try simp only [] at h1); omega) | (intro q h1 h2; (try simp only [] at h1 h2); omega) | (intro q h1 h2; have h2 : q = _ := h2; have := hlt q (by (try simp only [] at h1); omega); omega) | (intro q h1 h2; (try simp only [] at h1 h2); rcases h2 with h2 | h2 | h2 <;> first | omega | (subst h2; omega)) | (intro q h1 h2; (try simp only [] at h1 h2); rcases h2 with h2 | h2 | h2 | h2 <;> first | omega | (subst h2; omega)))) rfl rfl) ?_
          refine X.dTake 4 rfl (by kernel_rfl) (by kernel_rfl) (by kernel_rfl) (X.dwN rfl) (fun w' hk' => X.move rfl) ?_
          refine X.dTake 5 rfl (by kernel_rfl) (by kernel_rfl) (by kernel_rfl) (X.dwN rfl) (fun w' hk' => X.nilCk rfl) ?_
          refine X.dTake 6 rfl (by kernel_rfl) (by kernel_rfl) (by kernel_rfl) (X.dwN rfl) (fun w' hk' => X.fldB (j := 2) Try.underlying60 rfl rfl Try.sizeOf3 rfl) ?_
          refine X.dTake 7 rfl (by kernel_rfl) (by kernel_rfl) (by kernel_rfl) (X.dwN rfl) (fun w' hk' => X.load1B Try.isAgg3 ((h.B.keep ((hk1.trans hk2).trans hk3)).ext hk' (by first | (intros; (try simp only [] at *); omega) | (intro hh; (try simp only [] at hh); omega) | (intro q h1 h2; (try simp only [] at h1 h2); have := hlt q (by omega); omega) | (intro hh; have hh : _ = _ := hh; subst hh; omega) | (intro q h1 h2; have h2 : q = _ := h2; subst h2; (try simp only [] at h1); omega) | (intro q h1 h2; (try simp only [] at h1 h2); omega) | (intro q h1 h2; have h2 : q = _ := h2; have := hlt q (by (try simp only [] at h1); omega); omega) | (intro q h1 h2; (try simp only [] at h1 h2); rcases h2 with h2 | h2 | h2 <;> first | omega | (subst h2; omega)) | (intro q h1 h2; (try simp only [] at h1 h2); rcases h2 with h2 | h2 | h2 | h2 <;> first | omega | (subst h2; omega)))) rfl rfl) ?_
          refine X.dTake 8 rfl (by kernel_rfl) (by kernel_rfl) (by kernel_rfl) (X.dwN rfl) (fun w' hk' => X.buildB (vs := []) (cs := #[.slice none 0 0, .slice none 0 0]) rfl (by kernel_rfl)) ?_
          refine X.dE (i := 9) (by kernel_rfl) rfl (X.dwN rfl) (X.boxE rfl rfl) (by rintro _ w4 ⟨rfl, hB4, hk4, hz4⟩ _; exact hk4.mono (fun _ _ h => h.elim)) ?_
          rintro _ w4 ⟨rfl, hB4, hk4, hz4⟩
          refine X.dE (i := 10) (by kernel_rfl) rfl (X.dwN rfl) (X.updateV (enc := fun x : Int => Value.int .i64 x) (venc := fun v : Value => v) (a := (s0.fs.length : Int)) (v := ptrV w3.heap.size) Try.underlying55 (keyInt Try.underlying3) ((((h.F.keep hk1).keep hk2).keep hk3).keep hk4) rfl rfl rfl) (fun _ _ _ h => absurd h (by decide)) ?_
          rintro _ w5 ⟨hG5, hx5, hz5⟩
          refine X.dEnd (by kernel_rfl) ?_
          refine X.seq ?_
          refine X.region ?_
          refine X.opw X.wN rfl (X.move rfl) ?_
          refine X.opw X.wN rfl (X.move (v := .string _) rfl) ?_
          refine X.opw X.wN rfl (X.move rfl) ?_
          refine X.opw X.wN rfl (X.nilCk rfl) ?_
          refine X.opw X.wN rfl (X.fldB (j := 2) Try.underlying60 rfl rfl Try.sizeOf3 rfl) ?_
          refine X.opw X.wN rfl (X.load1B Try.isAgg3 ((h.B.keep (((hk1.trans hk2).trans hk3).trans hk4)).ext hx5 (by first | (intros; (try simp only [] at *); omega) | (intro hh; (try simp only [] at hh); omega) | (intro q h1 h2; (try simp only [] at h1 h2); have := hlt q (by omega); omega) | (intro hh; have hh : _ = _ := hh; subst hh; omega) | (intro q h1 h2; have h2 : q = _ := h2; subst h2; (try simp only [] at h1); omega) | (intro q h1 h2; (try simp only [] at h1 h2); omega) | (intro q h1 h2; have h2 : q = _ := h2; have := hlt q (by (try simp only [] at h1); omega); omega) | (intro q h1 h2; (try simp only [] at h1 h2); rcases h2 with h2 | h2 | h2 <;> first | omega | (subst h2; omega)) | (intro q h1 h2; (try simp only [] at h1 h2); rcases h2 with h2 | h2 | h2 | h2 <;> first | omega | (subst h2; omega)))) rfl rfl) ?_
          refine X.opw X.wN rfl (X.buildB (vs := [(1, .string nm), (2, .int .i64 (s0.fs.length : Int))]) (cs := #[.string ⟨#[]⟩, .string nm, .int .i64 (s0.fs.length : Int)]) rfl (by kernel_rfl)) ?_
          refine X.opE X.wN rfl (X.callE (note_c (S := fun q => col q = 6) (⟨#[]⟩, nm, (s0.fs.length : Int)) _ ((h.B.keep (((hk1.trans hk2).trans hk3).trans hk4)).ext hx5 (by first | (intros; (try simp only [] at *); omega) | (intro hh; (try simp only [] at hh); omega) | (intro q h1 h2; (try simp only [] at h1 h2); have := hlt q (by omega); omega) | (intro hh; have hh : _ = _ := hh; subst hh; omega) | (intro q h1 h2; have h2 : q = _ := h2; subst h2; (try simp only [] at h1); omega) | (intro q h1 h2; (try simp only [] at h1 h2); omega) | (intro q h1 h2; have h2 : q = _ := h2; have := hlt q (by (try simp only [] at h1); omega); omega) | (intro q h1 h2; (try simp only [] at h1 h2); rcases h2 with h2 | h2 | h2 <;> first | omega | (subst h2; omega)) | (intro q h1 h2; (try simp only [] at h1 h2); rcases h2 with h2 | h2 | h2 | h2 <;> first | omega | (subst h2; omega)))) (((((h.G.keep hk1).keep hk2).keep hk3).keep hk4).ext hx5 (by first | (intros; (try simp only [] at *); omega) | (intro hh; (try simp only [] at hh); omega) | (intro q h1 h2; (try simp only [] at h1 h2); have := hlt q (by omega); omega) | (intro hh; have hh : _ = _ := hh; subst hh; omega) | (intro q h1 h2; have h2 : q = _ := h2; subst h2; (try simp only [] at h1); omega) | (intro q h1 h2; (try simp only [] at h1 h2); omega) | (intro q h1 h2; have h2 : q = _ := h2; have := hlt q (by (try simp only [] at h1); omega); omega) | (intro q h1 h2; (try simp only [] at h1 h2); rcases h2 with h2 | h2 | h2 <;> first | omega | (subst h2; omega)) | (intro q h1 h2; (try simp only [] at h1 h2); rcases h2 with h2 | h2 | h2 | h2 <;> first | omega | (subst h2; omega)))) (((((h.M.keep hk1).keep hk2).keep hk3).keep hk4).ext hx5 (by intros; omega) (by first | (intros; (try simp only [] at *); omega) | (intro hh; (try simp only [] at hh); omega) | (intro q h1 h2; (try simp only [] at h1 h2); have := hlt q (by omega); omega) | (intro hh; have hh : _ = _ := hh; subst hh; omega) | (intro q h1 h2; have h2 : q = _ := h2; subst h2; (try simp only [] at h1); omega) | (intro q h1 h2; (try simp only [] at h1 h2); omega) | (intro q h1 h2; have h2 : q = _ := h2; have := hlt q (by (try simp only [] at h1); omega); omega) | (intro q h1 h2; (try simp only [] at h1 h2); rcases h2 with h2 | h2 | h2 <;> first | omega | (subst h2; omega)) | (intro q h1 h2; (try simp only [] at h1 h2); rcases h2 with h2 | h2 | h2 | h2 <;> first | omega | (subst h2; omega)))) (by intro hh; subst hh; omega) (by (try simp only []); omega) (by (try simp only []); omega) (by intro q hq; have := hlt q (by (try simp only [] at hq); omega); omega) (by omega)) Try.call27 rfl rfl) ?_
          rintro _ w6 ⟨rfl, A', n', c', hBn, hGn, hMn, hxn⟩
          have hxn' := hxn.size
          refine X.opsEnd ?_
          refine X.seq ?_
          refine X.region ?_
          refine X.opw X.wN rfl (X.move rfl) ?_
          refine X.opw X.wN rfl (X.nilCk rfl) ?_
          refine X.opw X.wN rfl (X.fldB (j := 2) Try.underlying60 rfl rfl Try.sizeOf3 rfl) ?_
          refine X.opw X.wN rfl (X.load1B Try.isAgg3 hBn rfl rfl) ?_
          refine X.opw X.wN rfl (X.add rfl rfl (X.w_i64 (by omega))) ?_
          refine X.opw X.wN rfl (X.nilCk rfl) ?_
          refine X.opw X.wN rfl (X.fldB (j := 2) Try.underlying60 rfl rfl Try.sizeOf3 rfl) ?_
          refine X.opE X.wN rfl (X.storeE Try.sizeOf3 hBn rfl rfl rfl rfl) ?_
          rintro _ w7 ⟨hB7, hx7, hz7⟩
          refine X.opsEnd ?_
          refine X.seq ?_
          refine X.region ?_
          refine X.opw X.wN rfl (X.move rfl) ?_
          refine X.opE X.wN rfl (X.callE (did_c _ hB7 (by omega)) Try.call28 rfl rfl) ?_
          rintro _ w8 ⟨rfl, hBd, hxd⟩
          have hxd' := hxd.size
          refine X.opw X.wN rfl (X.assign (v := .int .i64 _) rfl) ?_
          refine X.opsEnd ?_
          refine X.ret1 (v := (.int .i64 _)) Try.func7 Try.results7 rfl ?_
          have hfew : ¬ 256 ≤ s0.dir.length := by omega
          have hx : Ext (fun q => q = b ∨ q = bf ∨ q = bd ∨ col q = 6) w _ := (Ext.andThen (Ext.andThen (Ext.andThen (Ext.andThen (Ext.andThen (Ext.andThen (Ext.andThen (Ext.andThen (Ext.refl (fun q => q = b ∨ q = bf ∨ q = bd ∨ col q = 6) _) hk1 (by intro q h1 h2; first | exact (h2 : False).elim | ((try simp only [] at h2); omega))) hk2 (by intro q h1 h2; first | exact (h2 : False).elim | ((try simp only [] at h2); omega))) hk3 (by intro q h1 h2; first | exact (h2 : False).elim | ((try simp only [] at h2); omega))) hk4 (by intro q h1 h2; first | exact (h2 : False).elim | ((try simp only [] at h2); omega))) hx5 (by intro q h1 h2; first | exact (h2 : False).elim | ((try simp only [] at h2); omega))) hxn (by intro q h1 h2; first | exact (h2 : False).elim | ((try simp only [] at h2); omega))) hx7 (by intro q h1 h2; first | exact (h2 : False).elim | ((try simp only [] at h2); omega))) hxd (by intro q h1 h2; first | exact (h2 : False).elim | ((try simp only [] at h2); omega)))
          have hpl := h.pl
          have hp0 : col w3.heap.size = 0 := Classical.byContradiction fun e => by have := hlt _ e; omega
          generalize hcol : (fun q => if q < w.heap.size then col q else if q = w3.heap.size then 7 + 3 * s0.fs.length else if q < w8.heap.size then 6 else 0) = col'
          have hold : ∀ q, q < w.heap.size → col' q = col q := fun q hq => by rw [← hcol]; simp only [if_pos hq]
          have hnew : ∀ q, w.heap.size ≤ q → q ≠ w3.heap.size → q < w8.heap.size → col' q = 6 := fun q h1 h2 h3 => by rw [← hcol]; simp only [if_neg (Nat.not_lt.2 h1), if_neg h2, if_pos h3]
          have hpc : col' w3.heap.size = 7 + 3 * s0.fs.length := by rw [← hcol]; simp only [if_neg (show ¬ w3.heap.size < w.heap.size by omega), if_pos True.intro]
          have P := h.part (col' := col') (fun v => v = 1 ∨ v = 2 ∨ v = 3 ∨ v = 6) hx hold (fun q hq ht => by
            rcases ht with rfl | rfl | rfl | ht
            · exact .inl hcb
            · exact .inr (.inl hcf)
            · exact .inr (.inr (.inl hcd))
            · exact .inr (.inr (.inr ht)))
          have e : s0.create nm = (0, (({ s0 with fs := s0.fs ++ [([], [])] } : DS).note (⟨#[]⟩, nm, (s0.fs.length : Int))).did) := by simp only [DS.create, if_neg hD, if_neg hr, if_neg hth, if_neg hfew]
          rw [e]
          refine ⟨rfl, col', ⟨bf, bd, bx, bl, A', n', c', pt ++ [w3.heap.size], ?_, ?_, ((hGn.ext hx7 (by first | (intros; (try simp only [] at *); omega) | (intro hh; (try simp only [] at hh); omega) | (intro q h1 h2; (try simp only [] at h1 h2); have := hlt q (by omega); omega) | (intro hh; have hh : _ = _ := hh; subst hh; omega) | (intro q h1 h2; have h2 : q = _ := h2; subst h2; (try simp only [] at h1); omega) | (intro q h1 h2; (try simp only [] at h1 h2); omega) | (intro q h1 h2; have h2 : q = _ := h2; have := hlt q (by (try simp only [] at h1); omega); omega) | (intro q h1 h2; (try simp only [] at h1 h2); rcases h2 with h2 | h2 | h2 <;> first | omega | (subst h2; omega)) | (intro q h1 h2; (try simp only [] at h1 h2); rcases h2 with h2 | h2 | h2 | h2 <;> first | omega | (subst h2; omega)))).ext hxd (by first | (intros; (try simp only [] at *); omega) | (intro hh; (try simp only [] at hh); omega) | (intro q h1 h2; (try simp only [] at h1 h2); have := hlt q (by omega); omega) | (intro hh; have hh : _ = _ := hh; subst hh; omega) | (intro q h1 h2; have h2 : q = _ := h2; subst h2; (try simp only [] at h1); omega) | (intro q h1 h2; (try simp only [] at h1 h2); omega) | (intro q h1 h2; have h2 : q = _ := h2; have := hlt q (by (try simp only [] at h1); omega); omega) | (intro q h1 h2; (try simp only [] at h1 h2); rcases h2 with h2 | h2 | h2 <;> first | omega | (subst h2; omega)) | (intro q h1 h2; (try simp only [] at h1 h2); rcases h2 with h2 | h2 | h2 | h2 <;> first | omega | (subst h2; omega)))), P.X (by decide), P.L (by decide), ?_, P.cb, P.cf, P.cd, P.cx, P.cl, ?_, by simp [DS.did, DS.note, hpl], ?_⟩, ⟨hold, hx.mono (fun q _ t => ?_)⟩⟩
          · have := hBd
            have e1 : ((s0.fs ++ [([], [])] : List FILE).length : Int) = (s0.fs.length : Int) + 1 := by simp
            simp only [DS.did, DS.note, e1]
            exact this
          · have h1 := (((hG5.ext hxn (by first | (intros; (try simp only [] at *); omega) | (intro hh; (try simp only [] at hh); omega) | (intro q h1 h2; (try simp only [] at h1 h2); have := hlt q (by omega); omega) | (intro hh; have hh : _ = _ := hh; subst hh; omega) | (intro q h1 h2; have h2 : q = _ := h2; subst h2; (try simp only [] at h1); omega) | (intro q h1 h2; (try simp only [] at h1 h2); omega) | (intro q h1 h2; have h2 : q = _ := h2; have := hlt q (by (try simp only [] at h1); omega); omega) | (intro q h1 h2; (try simp only [] at h1 h2); rcases h2 with h2 | h2 | h2 <;> first | omega | (subst h2; omega)) | (intro q h1 h2; (try simp only [] at h1 h2); rcases h2 with h2 | h2 | h2 | h2 <;> first | omega | (subst h2; omega)))).ext hx7 (by first | (intros; (try simp only [] at *); omega) | (intro hh; (try simp only [] at hh); omega) | (intro q h1 h2; (try simp only [] at h1 h2); have := hlt q (by omega); omega) | (intro hh; have hh : _ = _ := hh; subst hh; omega) | (intro q h1 h2; have h2 : q = _ := h2; subst h2; (try simp only [] at h1); omega) | (intro q h1 h2; (try simp only [] at h1 h2); omega) | (intro q h1 h2; have h2 : q = _ := h2; have := hlt q (by (try simp only [] at h1); omega); omega) | (intro q h1 h2; (try simp only [] at h1 h2); rcases h2 with h2 | h2 | h2 <;> first | omega | (subst h2; omega)) | (intro q h1 h2; (try simp only [] at h1 h2); rcases h2 with h2 | h2 | h2 | h2 <;> first | omega | (subst h2; omega)))).ext hxd (by first | (intros; (try simp only [] at *); omega) | (intro hh; (try simp only [] at hh); omega) | (intro q h1 h2; (try simp only [] at h1 h2); have := hlt q (by omega); omega) | (intro hh; have hh : _ = _ := hh; subst hh; omega) | (intro q h1 h2; have h2 : q = _ := h2; subst h2; (try simp only [] at h1); omega) | (intro q h1 h2; (try simp only [] at h1 h2); omega) | (intro q h1 h2; have h2 : q = _ := h2; have := hlt q (by (try simp only [] at h1); omega); omega) | (intro q h1 h2; (try simp only [] at h1 h2); rcases h2 with h2 | h2 | h2 <;> first | omega | (subst h2; omega)) | (intro q h1 h2; (try simp only [] at h1 h2); rcases h2 with h2 | h2 | h2 | h2 <;> first | omega | (subst h2; omega))))
            have h2 := fmapF_put w3.heap.size pt 0
            rw [Nat.zero_add, hpl] at h2
            simp only [MPF, MpV]
            have h3 : mv (fun v : Value => v) (put (s0.fs.length : Int) (ptrV w3.heap.size) (fmapF 0 pt)) = mv (fun v : Value => v) (fmapF 0 (pt ++ [w3.heap.size])) := by rw [h2]
            rw [← h3]; exact h1
          · refine (((hMn.ext hx7 (by intros; omega) (by first | (intros; (try simp only [] at *); omega) | (intro hh; (try simp only [] at hh); omega) | (intro q h1 h2; (try simp only [] at h1 h2); have := hlt q (by omega); omega) | (intro hh; have hh : _ = _ := hh; subst hh; omega) | (intro q h1 h2; have h2 : q = _ := h2; subst h2; (try simp only [] at h1); omega) | (intro q h1 h2; (try simp only [] at h1 h2); omega) | (intro q h1 h2; have h2 : q = _ := h2; have := hlt q (by (try simp only [] at h1); omega); omega) | (intro q h1 h2; (try simp only [] at h1 h2); rcases h2 with h2 | h2 | h2 <;> first | omega | (subst h2; omega)) | (intro q h1 h2; (try simp only [] at h1 h2); rcases h2 with h2 | h2 | h2 | h2 <;> first | omega | (subst h2; omega)))).ext hxd (by intros; omega) (by first | (intros; (try simp only [] at *); omega) | (intro hh; (try simp only [] at hh); omega) | (intro q h1 h2; (try simp only [] at h1 h2); have := hlt q (by omega); omega) | (intro hh; have hh : _ = _ := hh; subst hh; omega) | (intro q h1 h2; have h2 : q = _ := h2; subst h2; (try simp only [] at h1); omega) | (intro q h1 h2; (try simp only [] at h1 h2); omega) | (intro q h1 h2; have h2 : q = _ := h2; have := hlt q (by (try simp only [] at h1); omega); omega) | (intro q h1 h2; (try simp only [] at h1 h2); rcases h2 with h2 | h2 | h2 <;> first | omega | (subst h2; omega)) | (intro q h1 h2; (try simp only [] at h1 h2); rcases h2 with h2 | h2 | h2 | h2 <;> first | omega | (subst h2; omega))))).mono (fun q hq hS => ?_)
            rcases hS with hS | ⟨h1, h2⟩
            · have := hlt q (by omega)
              rw [hold q this]; exact hS
            · exact hnew q (by omega) (by omega) (by omega)
          · intro q hq
            rw [← hcol] at hq
            simp only [] at hq
            split at hq
            · omega
            · split at hq
              · omega
              · split at hq
                · assumption
                · exact absurd rfl hq
          · intro k q f h1 h2
            rcases Nat.lt_or_ge k pt.length with hk | hk
            · have h3 : pt[k]? = some q := by rw [List.getElem?_append_left hk] at h1; exact h1
              have h4 : s0.fs[k]? = some f := by
                have h2 : (s0.fs ++ [([], [])] : List FILE)[k]? = some f := h2
                rw [List.getElem?_append_left (by omega)] at h2; exact h2
              exact P.fl k q f h3 h4 (fun j a1 a2 => by omega)
            · have hk0 : k = pt.length := by
                have := (List.getElem?_eq_some_iff.1 h1).1
                simp at this; omega
              subst hk0
              have h3 : q = w3.heap.size := by rw [List.getElem?_append_right (by omega)] at h1; simpa using h1.symm
              have h4 : f = ([], []) := by
                have h2 : (s0.fs ++ [([], [])] : List FILE)[pt.length]? = some f := h2
                rw [List.getElem?_append_right (by omega), hpl] at h2; simpa using h2.symm
              subst h3 h4
              refine ⟨by rw [hpc, hpl], none, 0, 0, none, 0, 0, ((((hB4.ext hx5 (by first | (intros; (try simp only [] at *); omega) | (intro hh; (try simp only [] at hh); omega) | (intro q h1 h2; (try simp only [] at h1 h2); have := hlt q (by omega); omega) | (intro hh; have hh : _ = _ := hh; subst hh; omega) | (intro q h1 h2; have h2 : q = _ := h2; subst h2; (try simp only [] at h1); omega) | (intro q h1 h2; (try simp only [] at h1 h2); omega) | (intro q h1 h2; have h2 : q = _ := h2; have := hlt q (by (try simp only [] at h1); omega); omega) | (intro q h1 h2; (try simp only [] at h1 h2); rcases h2 with h2 | h2 | h2 <;> first | omega | (subst h2; omega)) | (intro q h1 h2; (try simp only [] at h1 h2); rcases h2 with h2 | h2 | h2 | h2 <;> first | omega | (subst h2; omega)))).ext hxn (by first | (intros; (try simp only [] at *); omega) | (intro hh; (try simp only [] at hh); omega) | (intro q h1 h2; (try simp only [] at h1 h2); have := hlt q (by omega); omega) | (intro hh; have hh : _ = _ := hh; subst hh; omega) | (intro q h1 h2; have h2 : q = _ := h2; subst h2; (try simp only [] at h1); omega) | (intro q h1 h2; (try simp only [] at h1 h2); omega) | (intro q h1 h2; have h2 : q = _ := h2; have := hlt q (by (try simp only [] at h1); omega); omega) | (intro q h1 h2; (try simp only [] at h1 h2); rcases h2 with h2 | h2 | h2 <;> first | omega | (subst h2; omega)) | (intro q h1 h2; (try simp only [] at h1 h2); rcases h2 with h2 | h2 | h2 | h2 <;> first | omega | (subst h2; omega)))).ext hx7 (by first | (intros; (try simp only [] at *); omega) | (intro hh; (try simp only [] at hh); omega) | (intro q h1 h2; (try simp only [] at h1 h2); have := hlt q (by omega); omega) | (intro hh; have hh : _ = _ := hh; subst hh; omega) | (intro q h1 h2; have h2 : q = _ := h2; subst h2; (try simp only [] at h1); omega) | (intro q h1 h2; (try simp only [] at h1 h2); omega) | (intro q h1 h2; have h2 : q = _ := h2; have := hlt q (by (try simp only [] at h1); omega); omega) | (intro q h1 h2; (try simp only [] at h1 h2); rcases h2 with h2 | h2 | h2 <;> first | omega | (subst h2; omega)) | (intro q h1 h2; (try simp only [] at h1 h2); rcases h2 with h2 | h2 | h2 | h2 <;> first | omega | (subst h2; omega)))).ext hxd (by first | (intros; (try simp only [] at *); omega) | (intro hh; (try simp only [] at hh); omega) | (intro q h1 h2; (try simp only [] at h1 h2); have := hlt q (by omega); omega) | (intro hh; have hh : _ = _ := hh; subst hh; omega) | (intro q h1 h2; have h2 : q = _ := h2; subst h2; (try simp only [] at h1); omega) | (intro q h1 h2; (try simp only [] at h1 h2); omega) | (intro q h1 h2; have h2 : q = _ := h2; have := hlt q (by (try simp only [] at h1); omega); omega) | (intro q h1 h2; (try simp only [] at h1 h2); rcases h2 with h2 | h2 | h2 <;> first | omega | (subst h2; omega)) | (intro q h1 h2; (try simp only [] at h1 h2); rcases h2 with h2 | h2 | h2 | h2 <;> first | omega | (subst h2; omega)))), Row.of (Mine.nil _ _ _ _ _ _), Mine.nil _ _ _ _ _ _⟩
          · rcases t with rfl | rfl | rfl | t <;> omega
end Go.Proofs.Ytcdebnppbnmmgaa

namespace Go.Proofs.Ytcdebnppbnmmgaa
open Go Go.Proofs.Ytcdebnppbnmmgaa.X
set_option linter.unusedVariables false
set_option linter.unusedSimpArgs false
def DS.delete (nm : ByteArray) (s : DS) : Int × DS :=
  if s.down = true then (54, s) else if asc nm s.dir = none then (52, s) else (0, (s.note (nm, ⟨#[]⟩, 0)).did)
def DS.rename (nm to : ByteArray) (s : DS) : Int × DS :=
  if s.down = true then (54, s) else match asc nm s.dir with
  | none => (52, s)
  | some k => if rightN to = false then (51, s) else (0, (if to = nm then s else s.note (nm, to, k)).did)
def DS.syncDir (s : DS) : Int × DS := if s.down = true then (54, s) else (0, ({ s with fx := s.dir, chs := [] } : DS).did)
-- f18 "(*pedigree/disk.Disk).Delete" params [26, 9] results [27] -> [(ResultVar.tmp 4)] nfree 0 ntmps 29 name
set_option maxHeartbeats 4000000 in
set_option maxRecDepth 100000 in
theorem Delete_c {col : Nat → Nat} {b bf bd bx bl : Nat} {A : Option Addr} {n c : Nat} {pt : List Nat} {s0 : DS} (nm : ByteArray) (w : World) (h : DkB col w b bf bd bx bl A n c pt s0) (hok : s0.Ok) (hnm : nm.size ≤ 9223372036854775807) (hsz : s0.size ≤ 100000) : Ret Try.prog 18 #[ptrV b, .string nm] w fun r w' => r = .int .i64 (s0.delete nm).1 ∧ ∃ col', DkR col' w' b (s0.delete nm).2 ∧ Stp col w col' w' := by
  have hbl := h.B.lt
  have hfl := h.F.lt
  have hdl := h.G.lt
  have hxl := h.X.lt
  have hll := h.L.lt
  have hcb := h.cb
  have hcf := h.cf
  have hcd := h.cd
  have hcx := h.cx
  have hcl := h.cl
  obtain ⟨z1, z2, z3, z4, z5, z6, z7, z8, z9, z10⟩ := h.ne
  have hlt := h.lt
  have hok1 := hok.lf
  have hok2 := hok.few
  rw [DS.size] at hsz
  refine X.enter Try.func18 rfl Try.ntmps18 rfl ?_
  refine X.seq ?_
  refine X.region ?_
  refine X.opw X.wN rfl (X.assign rfl) ?_
  refine X.opsEnd ?_
  refine X.seq ?_
  refine X.seq ?_
  refine X.region ?_
  refine X.opw X.wN rfl (X.move rfl) ?_
  refine X.opE X.wN rfl (X.callE (may_c _ h.B) Try.call25 rfl rfl) ?_
  rintro _ w1 ⟨rfl, hk1⟩
  have hk1' := hk1.size
  refine X.opw X.wN rfl (X.assign (v := .int .i64 _) rfl) ?_
  refine X.opsEnd ?_
  refine X.seq ?_
  refine X.region ?_
  refine X.opw X.wN rfl (X.move (v := .int .i64 _) rfl) ?_
  refine X.opP X.wN rfl rfl (X.neI rfl rfl) (fun h12 => ?_) (fun h12 => ?_)
  · have hd : (s0.fu && decide (s0.lf ≤ 0)) = true := by
      cases hq : (s0.fu && decide (s0.lf ≤ 0)) with
      | true => rfl
      | false => rw [hq] at h12; simp at h12
    have hD : s0.down = true := hd
    refine X.opsEnd ?_
    refine X.condT rfl ?_
    refine X.seq ?_
    refine X.region ?_
    refine X.opw X.wN rfl (X.move (v := .int .i64 _) rfl) ?_
    refine X.opw X.wN rfl (X.assign (v := .int .i64 _) rfl) ?_
    refine X.opsEnd ?_
    refine X.ret1 (v := (.int .i64 _)) Try.func18 Try.results18 rfl ?_
    have e : s0.delete nm = (54, s0) := by simp only [DS.delete, if_pos hD]
    rw [e]
    exact ⟨by rw [if_pos hd], col, (h.keep hk1).r, Stp.keep hk1⟩
  · have hd : ¬ (s0.fu && decide (s0.lf ≤ 0)) = true := by
      cases hq : (s0.fu && decide (s0.lf ≤ 0)) with
      | false => simp
      | true => rw [hq] at h12; simp at h12
    have hD : ¬ s0.down = true := hd
    refine X.opsEnd ?_
    refine X.condF rfl ?_
    refine X.skip ?_
    refine X.seq ?_
    refine X.seq ?_
    refine X.region ?_
    refine X.opw X.wN rfl (X.move rfl) ?_
    refine X.opw X.wN rfl (X.move (v := .string _) rfl) ?_
    refine X.opE X.wN rfl (X.callE (named_c nm _ (h.B.keep hk1) (h.G.keep hk1) (h.F.keep hk1)) Try.call29 rfl rfl) ?_
    rintro _ w2 ⟨rfl, hk2⟩
    have hk2' := hk2.size
    refine X.opw X.wN rfl (X.move rfl) ?_
    refine X.opw X.wN rfl (X.extr rfl rfl) ?_
    refine X.opw X.wN rfl (X.extr rfl rfl) ?_
    refine X.opw X.wN rfl (X.extr rfl rfl) ?_
    refine X.opw X.wN rfl (X.assign (v := .int .i64 _) rfl) ?_
    refine X.opw X.wN rfl (X.assign rfl) ?_
    refine X.opw X.wN rfl (X.assign (v := .bool _) rfl) ?_
    refine X.opsEnd ?_
    refine X.seq ?_
    refine X.region ?_
    refine X.opw X.wN rfl (X.move (v := .bool _) rfl) ?_
    refine X.opw X.wN rfl (X.not_ rfl) ?_
    refine X.opsEnd ?_
    refine X.condB rfl (fun hc => ?_) (fun hc => ?_)
    · have hno : asc nm s0.dir = none := by
        cases ha : asc nm s0.dir with
        | none => rfl
        | some k => rw [ha] at hc; simp at hc
      refine X.seq ?_
      refine X.region ?_
      refine X.opw X.wN rfl (X.assign rfl) ?_
      refine X.opsEnd ?_
      refine X.ret1 (v := (.int .i64 _)) Try.func18 Try.results18 rfl ?_
      have e : s0.delete nm = (52, s0) := by simp only [DS.delete, if_neg hD, if_pos hno]
      rw [e]
      exact ⟨rfl, col, (h.keep (hk1.trans hk2)).r, Stp.keep (hk1.trans hk2)⟩
    · obtain ⟨k, hfa⟩ : ∃ k, asc nm s0.dir = some k := by
        cases ha : asc nm s0.dir with
        | none => rw [ha] at hc; simp at hc
        | some k => exact ⟨k, rfl⟩
      obtain ⟨hka, hkb, _⟩ := hok.dir _ (asc_some hfa)
      have hka : 0 ≤ k := hka
      have hkb : k < s0.fs.length := hkb
      obtain ⟨pf, f, A1, n1, c1, A2, n2, c2, hfb, hpf, hff, hn1, hn2, hfl1, hpc, hBf, hM1, hM2⟩ := h.at_ hka hkb
      have hlf := hok.len hff
      have hpl2 := hBf.lt
      refine X.skip ?_
      refine X.seq ?_
      refine X.region ?_
      refine X.opw X.wN rfl (X.move rfl) ?_
      refine X.opw X.wN rfl (X.move (v := .string _) rfl) ?_
      refine X.opw X.wN rfl (X.buildB (vs := [(0, .string nm)]) (cs := #[.string nm, .string ⟨#[]⟩, .int .i64 0]) rfl (by kernel_rfl)) ?_
      refine X.opE X.wN rfl (X.callE (note_c (S := fun q => col q = 6) (nm, ⟨#[]⟩, 0) _ (h.B.keep (hk1.trans hk2)) ((h.G.keep hk1).keep hk2) ((h.M.keep hk1).keep hk2) (by intro hh; subst hh; omega) (by (try simp only []); omega) (by (try simp only []); omega) (by intro q hq; have := hlt q (by (try simp only [] at hq); omega); omega) (by omega)) Try.call27 rfl rfl) ?_
      rintro _ w3 ⟨rfl, A', n', c', hBn, hGn, hMn, hxn⟩
      have hxn' := hxn.size
      refine X.opsEnd ?_
      refine X.seq ?_
      refine X.region ?_
      refine X.opw X.wN rfl (X.move rfl) ?_
      refine X.opE X.wN rfl (X.callE (did_c _ hBn (by omega)) Try.call28 rfl rfl) ?_
      rintro _ w4 ⟨rfl, hBd, hxd⟩
      have hxd' := hxd.size
      refine X.opw X.wN rfl (X.assign (v := .int .i64 _) rfl) ?_
      refine X.opsEnd ?_
      refine X.ret1 (v := (.int .i64 _)) Try.func18 Try.results18 rfl ?_
      have hx : Ext (fun q => col q = 1 ∨ col q = 3 ∨ col q = 6) w w4 := (Ext.andThen (Ext.andThen (Ext.andThen (Ext.andThen (Ext.refl (fun q => col q = 1 ∨ col q = 3 ∨ col q = 6) _) hk1 (by intro q h1 h2; first | exact (h2 : False).elim | ((try simp only [] at h2); omega) | (have h2 : q = _ := h2; subst h2; omega) | (rcases h2 with h2 | h2 | h2 <;> first | omega | (subst h2; omega)))) hk2 (by intro q h1 h2; first | exact (h2 : False).elim | ((try simp only [] at h2); omega) | (have h2 : q = _ := h2; subst h2; omega) | (rcases h2 with h2 | h2 | h2 <;> first | omega | (subst h2; omega)))) hxn (by intro q h1 h2; first | exact (h2 : False).elim | ((try simp only [] at h2); omega) | (have h2 : q = _ := h2; subst h2; omega) | (rcases h2 with h2 | h2 | h2 <;> first | omega | (subst h2; omega)))) hxd (by intro q h1 h2; first | exact (h2 : False).elim | ((try simp only [] at h2); omega) | (have h2 : q = _ := h2; subst h2; omega) | (rcases h2 with h2 | h2 | h2 <;> first | omega | (subst h2; omega))))
      have hxs := hx.size
      obtain ⟨col', hcol⟩ : ∃ col', col' = rec' col w.heap.size w4.heap.size (6) := ⟨_, rfl⟩
      have hold : ∀ q, q < w.heap.size → col' q = col q := fun q hq => by rw [hcol]; exact rec_old hq
      have hnew : ∀ q, w.heap.size ≤ q → q < w4.heap.size → col' q = 6 := fun q h1 h2 => by rw [hcol]; exact rec_new h1 h2
      have hltc : ∀ q, col' q ≠ 0 → q < w4.heap.size := fun q hq => by rw [hcol] at hq; exact rec_lt hlt hxs hq
      have P := h.part (col' := col') (fun v => v = 1 ∨ v = 3 ∨ v = 6) hx hold (fun q hq ht => ht)
      have hst : Stp col w col' w4 := ⟨hold, hx.mono (fun q _ t => by (try simp only [] at t); omega)⟩
      have e : s0.delete nm = (0, (s0.note (nm, ⟨#[]⟩, 0)).did) := by simp only [DS.delete, if_neg hD, hfa]; rfl
      rw [e]
      refine ⟨rfl, col', ⟨bf, bd, bx, bl, A', n', c', pt, hBd, P.F (by decide), (hGn.ext hxd (by first | (intros; (try simp only [] at *); omega) | (intro hh; (try simp only [] at hh); omega) | (intro q h1 h2; (try simp only [] at h1 h2); have := hlt q (by omega); omega) | (intro hh; have hh : _ = _ := hh; subst hh; omega) | (intro q h1 h2; have h2 : q = _ := h2; subst h2; (try simp only [] at h1); omega) | (intro q h1 h2; (try simp only [] at h1 h2); omega) | (intro q h1 h2; have h2 : q = _ := h2; have := hlt q (by (try simp only [] at h1); omega); omega) | (intro q h1 h2; (try simp only [] at h1 h2); rcases h2 with h2 | h2 | h2 <;> first | omega | (subst h2; omega)) | (intro q h1 h2; (try simp only [] at h1 h2); rcases h2 with h2 | h2 | h2 | h2 <;> first | omega | (subst h2; omega)))), P.X (by decide), P.L (by decide), ?_, P.cb, P.cf, P.cd, P.cx, P.cl, hltc, P.pl, fun k q f h1 h2 => P.fl k q f h1 h2 (fun j a1 a2 => by omega)⟩, hst⟩
      refine ((hMn.ext hxd (by intros; omega) (by first | (intros; (try simp only [] at *); omega) | (intro hh; (try simp only [] at hh); omega) | (intro q h1 h2; (try simp only [] at h1 h2); have := hlt q (by omega); omega) | (intro hh; have hh : _ = _ := hh; subst hh; omega) | (intro q h1 h2; have h2 : q = _ := h2; subst h2; (try simp only [] at h1); omega) | (intro q h1 h2; (try simp only [] at h1 h2); omega) | (intro q h1 h2; have h2 : q = _ := h2; have := hlt q (by (try simp only [] at h1); omega); omega) | (intro q h1 h2; (try simp only [] at h1 h2); rcases h2 with h2 | h2 | h2 <;> first | omega | (subst h2; omega)) | (intro q h1 h2; (try simp only [] at h1 h2); rcases h2 with h2 | h2 | h2 | h2 <;> first | omega | (subst h2; omega))))).mono (fun q hq hS => ?_)
      rcases hS with hS | ⟨h1, h2⟩
      · have := hlt q (by omega)
        rw [hold q this]; exact hS
      · exact hnew q (by omega) (by omega)
-- f17 "(*pedigree/disk.Disk).Rename" params [26, 9, 9] results [27] -> [(ResultVar.tmp 6)] nfree 0 ntmps 42 n
set_option maxHeartbeats 4000000 in
set_option maxRecDepth 100000 in
theorem Rename_c {col : Nat → Nat} {b bf bd bx bl : Nat} {A : Option Addr} {n c : Nat} {pt : List Nat} {s0 : DS} (nm to : ByteArray) (w : World) (h : DkB col w b bf bd bx bl A n c pt s0) (hok : s0.Ok) (hto : to.size ≤ 9223372036854775807) (hsz : s0.size ≤ 100000) : Ret Try.prog 17 #[ptrV b, .string nm, .string to] w fun r w' => r = .int .i64 (s0.rename nm to).1 ∧ ∃ col', DkR col' w' b (s0.rename nm to).2 ∧ Stp col w col' w' := by
  have hbl := h.B.lt
  have hfl := h.F.lt
  have hdl := h.G.lt
  have hxl := h.X.lt
  have hll := h.L.lt
  have hcb := h.cb
  have hcf := h.cf
  have hcd := h.cd
  have hcx := h.cx
  have hcl := h.cl
  obtain ⟨z1, z2, z3, z4, z5, z6, z7, z8, z9, z10⟩ := h.ne
  have hlt := h.lt
  have hok1 := hok.lf
  have hok2 := hok.few
  rw [DS.size] at hsz
  refine X.enter Try.func17 rfl Try.ntmps17 rfl ?_
  refine X.seq ?_
  refine X.region ?_
  refine X.opw X.wN rfl (X.assign rfl) ?_
  refine X.opsEnd ?_
  refine X.seq ?_
  refine X.seq ?_
  refine X.region ?_
  refine X.opw X.wN rfl (X.move rfl) ?_
  refine X.opE X.wN rfl (X.callE (may_c _ h.B) Try.call25 rfl rfl) ?_
  rintro _ w1 ⟨rfl, hk1⟩
  have hk1' := hk1.size
  refine X.opw X.wN rfl (X.assign (v := .int .i64 _) rfl) ?_
  refine X.opsEnd ?_
  refine X.seq ?_
  refine X.region ?_
  refine X.opw X.wN rfl (X.move (v := .int .i64 _) rfl) ?_
  refine X.opP X.wN rfl rfl (X.neI rfl rfl) (fun h14 => ?_) (fun h14 => ?_)
  · have hd : (s0.fu && decide (s0.lf ≤ 0)) = true := by
      cases hq : (s0.fu && decide (s0.lf ≤ 0)) with
      | true => rfl
      | false => rw [hq] at h14; simp at h14
    have hD : s0.down = true := hd
    refine X.opsEnd ?_
    refine X.condT rfl ?_
    refine X.seq ?_
    refine X.region ?_
    refine X.opw X.wN rfl (X.move (v := .int .i64 _) rfl) ?_
    refine X.opw X.wN rfl (X.assign (v := .int .i64 _) rfl) ?_
    refine X.opsEnd ?_
    refine X.ret1 (v := (.int .i64 _)) Try.func17 Try.results17 rfl ?_
    have e : s0.rename nm to = (54, s0) := by simp only [DS.rename, if_pos hD]
    rw [e]
    exact ⟨by rw [if_pos hd], col, (h.keep hk1).r, Stp.keep hk1⟩
  · have hd : ¬ (s0.fu && decide (s0.lf ≤ 0)) = true := by
      cases hq : (s0.fu && decide (s0.lf ≤ 0)) with
      | false => simp
      | true => rw [hq] at h14; simp at h14
    have hD : ¬ s0.down = true := hd
    refine X.opsEnd ?_
    refine X.condF rfl ?_
    refine X.skip ?_
    refine X.seq ?_
    refine X.region ?_
    refine X.opw X.wN rfl (X.move rfl) ?_
    refine X.opw X.wN rfl (X.move (v := .string _) rfl) ?_
    refine X.opE X.wN rfl (X.callE (named_c nm _ (h.B.keep hk1) (h.G.keep hk1) (h.F.keep hk1)) Try.call29 rfl rfl) ?_
    rintro _ w2 ⟨rfl, hk2⟩
    have hk2' := hk2.size
    refine X.opw X.wN rfl (X.move rfl) ?_
    refine X.opw X.wN rfl (X.extr rfl rfl) ?_
    refine X.opw X.wN rfl (X.extr rfl rfl) ?_
    refine X.opw X.wN rfl (X.extr rfl rfl) ?_
    refine X.opw X.wN rfl (X.assign (v := .int .i64 _) rfl) ?_
    refine X.opw X.wN rfl (X.assign rfl) ?_
    refine X.opw X.wN rfl (X.assign (v := .bool _) rfl) ?_
    refine X.opsEnd ?_
    refine X.seq ?_
    refine X.block ?_
    refine X.seq ?_
    refine X.region ?_
    refine X.opw X.wN rfl (X.move (v := .bool _) rfl) ?_
    refine X.opw X.wN rfl (X.not_ rfl) ?_
    refine X.opw X.wN rfl (X.assign (v := .bool _) rfl) ?_
    refine X.opsEnd ?_
    refine X.condB rfl (fun hc => ?_) (fun hc => ?_)
    · have hno : asc nm s0.dir = none := by
        cases ha : asc nm s0.dir with
        | none => rfl
        | some k => rw [ha] at hc; simp at hc
      refine X.seq ?_
      refine X.region ?_
      refine X.opw X.wN rfl (X.assign rfl) ?_
      refine X.opsEnd ?_
      refine X.ret1 (v := (.int .i64 _)) Try.func17 Try.results17 rfl ?_
      have e : s0.rename nm to = (52, s0) := by simp only [DS.rename, if_neg hD, hno]
      rw [e]
      exact ⟨rfl, col, (h.keep (hk1.trans hk2)).r, Stp.keep (hk1.trans hk2)⟩
    · obtain ⟨k, hfa⟩ : ∃ k, asc nm s0.dir = some k := by
        cases ha : asc nm s0.dir with
        | none => rw [ha] at hc; simp at hc
        | some k => exact ⟨k, rfl⟩
      obtain ⟨hka, hkb, _⟩ := hok.dir _ (asc_some hfa)
      have hka : 0 ≤ k := hka
      have hkb : k < s0.fs.length := hkb
      obtain ⟨pf, f, A1, n1, c1, A2, n2, c2, hfb, hpf, hff, hn1, hn2, hfl1, hpc, hBf, hM1, hM2⟩ := h.at_ hka hkb
      have hlf := hok.len hff
      have hpl2 := hBf.lt
      rw [hfa, Option.getD_some, hfb, Option.getD_some]
      refine X.seq ?_
      refine X.region ?_
      refine X.opw X.wN rfl (X.move (v := .string _) rfl) ?_
      refine X.opE X.wN rfl (X.callE (right_c to _ hto) Try.call26 rfl rfl) ?_
      rintro _ w3 ⟨rfl, hk3⟩
      have hk3' := hk3.size
      refine X.opw X.wN rfl (X.not_ rfl) ?_
      refine X.opw X.wN rfl (X.assign (v := .bool _) rfl) ?_
      refine X.opsEnd ?_
      refine X.condB rfl (fun hr0 => ?_) (fun hr0 => ?_)
      · have hr : rightN to = false := by
          rw [rightN]
          cases hq : decide (to ≠ ⟨#[]⟩ ∧ to.size ≤ 64) with
          | false => rfl
          | true => rw [hq] at hr0; simp at hr0
        refine X.seq ?_
        refine X.region ?_
        refine X.opw X.wN rfl (X.assign rfl) ?_
        refine X.opsEnd ?_
        refine X.ret1 (v := (.int .i64 _)) Try.func17 Try.results17 rfl ?_
        have e : s0.rename nm to = (51, s0) := by simp only [DS.rename, if_neg hD, hfa, if_pos hr]
        rw [e]
        exact ⟨rfl, col, (h.keep ((hk1.trans hk2).trans hk3)).r, Stp.keep ((hk1.trans hk2).trans hk3)⟩
      · have hr : ¬ rightN to = false := by
          rw [rightN]
          cases hq : decide (to ≠ ⟨#[]⟩ ∧ to.size ≤ 64) with
          | true => simp
          | false => rw [hq] at hr0; simp at hr0
        refine X.seq ?_
        refine X.region ?_
        refine X.opw X.wN rfl (X.move (v := .string _) rfl) ?_
        refine X.opw X.wN rfl (X.move (v := .string _) rfl) ?_
        refine X.opP X.wN rfl rfl (X.neD rfl rfl) (fun h33 => ?_) (fun h33 => ?_)
        · have h33 : ¬ to = nm := h33
          refine X.opw X.wN rfl (X.assign (v := .bool true) rfl) ?_
          refine X.opsEnd ?_
          refine X.condT rfl ?_
          refine X.region ?_
          refine X.opw X.wN rfl (X.move rfl) ?_
          refine X.opw X.wN rfl (X.move (v := .string _) rfl) ?_
          refine X.opw X.wN rfl (X.move (v := .string _) rfl) ?_
          refine X.opw X.wN rfl (X.move (v := .int .i64 _) rfl) ?_
          refine X.opw X.wN rfl (X.buildB (vs := [(0, .string nm), (1, .string to), (2, .int .i64 k)]) (cs := #[.string nm, .string to, .int .i64 k]) rfl (by kernel_rfl)) ?_
          refine X.opE X.wN rfl (X.callE (note_c (S := fun q => col q = 6) (nm, to, k) _ (h.B.keep ((hk1.trans hk2).trans hk3)) (((h.G.keep hk1).keep hk2).keep hk3) (((h.M.keep hk1).keep hk2).keep hk3) (by intro hh; subst hh; omega) (by (try simp only []); omega) (by (try simp only []); omega) (by intro q hq; have := hlt q (by (try simp only [] at hq); omega); omega) (by omega)) Try.call27 rfl rfl) ?_
          rintro _ w4 ⟨rfl, A', n', c', hBn, hGn, hMn, hxn⟩
          have hxn' := hxn.size
          refine X.opsEnd ?_
          refine X.inBlock ?_
          refine X.seq ?_
          refine X.region ?_
          refine X.opw X.wN rfl (X.move rfl) ?_
          refine X.opE X.wN rfl (X.callE (did_c _ hBn (by omega)) Try.call28 rfl rfl) ?_
          rintro _ w5 ⟨rfl, hBd, hxd⟩
          have hxd' := hxd.size
          refine X.opw X.wN rfl (X.assign (v := .int .i64 _) rfl) ?_
          refine X.opsEnd ?_
          refine X.ret1 (v := (.int .i64 _)) Try.func17 Try.results17 rfl ?_
          have hx : Ext (fun q => col q = 1 ∨ col q = 3 ∨ col q = 6) w w5 := (Ext.andThen (Ext.andThen (Ext.andThen (Ext.andThen (Ext.andThen (Ext.refl (fun q => col q = 1 ∨ col q = 3 ∨ col q = 6) _) hk1 (by intro q h1 h2; first | exact (h2 : False).elim | ((try simp only [] at h2); omega) | (have h2 : q = _ := h2; subst h2; omega) | (rcases h2 with h2 | h2 | h2 <;> first | omega | (subst h2; omega)))) hk2 (by intro q h1 h2; first | exact (h2 : False).elim | ((try simp only [] at h2); omega) | (have h2 : q = _ := h2; subst h2; omega) | (rcases h2 with h2 | h2 | h2 <;> first | omega | (subst h2; omega)))) hk3 (by intro q h1 h2; first | exact (h2 : False).elim | ((try simp only [] at h2); omega) | (have h2 : q = _ := h2; subst h2; omega) | (rcases h2 with h2 | h2 | h2 <;> first | omega | (subst h2; omega)))) hxn (by intro q h1 h2; first | exact (h2 : False).elim | ((try simp only [] at h2); omega) | (have h2 : q = _ := h2; subst h2; omega) | (rcases h2 with h2 | h2 | h2 <;> first | omega | (subst h2; omega)))) hxd (by intro q h1 h2; first | exact (h2 : False).elim | ((try simp only [] at h2); omega) | (have h2 : q = _ := h2; subst h2; omega) | (rcases h2 with h2 | h2 | h2 <;> first | omega | (subst h2; omega))))
          have hxs := hx.size
          obtain ⟨col', hcol⟩ : ∃ col', col' = rec' col w.heap.size w5.heap.size (6) := ⟨_, rfl⟩
          have hold : ∀ q, q < w.heap.size → col' q = col q := fun q hq => by rw [hcol]; exact rec_old hq
          have hnew : ∀ q, w.heap.size ≤ q → q < w5.heap.size → col' q = 6 := fun q h1 h2 => by rw [hcol]; exact rec_new h1 h2
          have hltc : ∀ q, col' q ≠ 0 → q < w5.heap.size := fun q hq => by rw [hcol] at hq; exact rec_lt hlt hxs hq
          have P := h.part (col' := col') (fun v => v = 1 ∨ v = 3 ∨ v = 6) hx hold (fun q hq ht => ht)
          have hst : Stp col w col' w5 := ⟨hold, hx.mono (fun q _ t => by (try simp only [] at t); omega)⟩
          have e : s0.rename nm to = (0, (s0.note (nm, to, k)).did) := by simp only [DS.rename, if_neg hD, hfa, if_neg hr, if_neg h33]
          rw [e]
          refine ⟨rfl, col', ⟨bf, bd, bx, bl, A', n', c', pt, hBd, P.F (by decide), (hGn.ext hxd (by first | (intros; (try simp only [] at *); omega) | (intro hh; (try simp only [] at hh); omega) | (intro q h1 h2; (try simp only [] at h1 h2); have := hlt q (by omega); omega) | (intro hh; have hh : _ = _ := hh; subst hh; omega) | (intro q h1 h2; have h2 : q = _ := h2; subst h2; (try simp only [] at h1); omega) | (intro q h1 h2; (try simp only [] at h1 h2); omega) | (intro q h1 h2; have h2 : q = _ := h2; have := hlt q (by (try simp only [] at h1); omega); omega) | (intro q h1 h2; (try simp only [] at h1 h2); rcases h2 with h2 | h2 | h2 <;> first | omega | (subst h2; omega)) | (intro q h1 h2; (try simp only [] at h1 h2); rcases h2 with h2 | h2 | h2 | h2 <;> first | omega | (subst h2; omega)))), P.X (by decide), P.L (by decide), ?_, P.cb, P.cf, P.cd, P.cx, P.cl, hltc, P.pl, fun k q f h1 h2 => P.fl k q f h1 h2 (fun j a1 a2 => by omega)⟩, hst⟩
          refine ((hMn.ext hxd (by intros; omega) (by first | (intros; (try simp only [] at *); omega) | (intro hh; (try simp only [] at hh); omega) | (intro q h1 h2; (try simp only [] at h1 h2); have := hlt q (by omega); omega) | (intro hh; have hh : _ = _ := hh; subst hh; omega) | (intro q h1 h2; have h2 : q = _ := h2; subst h2; (try simp only [] at h1); omega) | (intro q h1 h2; (try simp only [] at h1 h2); omega) | (intro q h1 h2; have h2 : q = _ := h2; have := hlt q (by (try simp only [] at h1); omega); omega) | (intro q h1 h2; (try simp only [] at h1 h2); rcases h2 with h2 | h2 | h2 <;> first | omega | (subst h2; omega)) | (intro q h1 h2; (try simp only [] at h1 h2); rcases h2 with h2 | h2 | h2 | h2 <;> first | omega | (subst h2; omega))))).mono (fun q hq hS => ?_)
          rcases hS with hS | ⟨h1, h2⟩
          · have := hlt q (by omega)
            rw [hold q this]; exact hS
          · exact hnew q (by omega) (by omega)
        · have h33 : to = nm := by simpa using h33
          refine X.opw X.wN rfl (X.assign (v := .bool false) rfl) ?_
          refine X.opsEnd ?_
          refine X.condF rfl ?_
          refine X.skip ?_
          refine X.inBlock ?_
          refine X.seq ?_
          refine X.region ?_
          refine X.opw X.wN rfl (X.move rfl) ?_
          refine X.opE X.wN rfl (X.callE (did_c _ (h.B.keep ((hk1.trans hk2).trans hk3)) (by omega)) Try.call28 rfl rfl) ?_
          rintro _ w6 ⟨rfl, hBd, hxd⟩
          have hxd' := hxd.size
          refine X.opw X.wN rfl (X.assign (v := .int .i64 _) rfl) ?_
          refine X.opsEnd ?_
          refine X.ret1 (v := (.int .i64 _)) Try.func17 Try.results17 rfl ?_
          have hx : Ext (fun q => col q = 1) w w6 := (Ext.andThen (Ext.andThen (Ext.andThen (Ext.andThen (Ext.refl (fun q => col q = 1) _) hk1 (by intro q h1 h2; first | exact (h2 : False).elim | ((try simp only [] at h2); omega) | (have h2 : q = _ := h2; subst h2; omega) | (rcases h2 with h2 | h2 | h2 <;> first | omega | (subst h2; omega)))) hk2 (by intro q h1 h2; first | exact (h2 : False).elim | ((try simp only [] at h2); omega) | (have h2 : q = _ := h2; subst h2; omega) | (rcases h2 with h2 | h2 | h2 <;> first | omega | (subst h2; omega)))) hk3 (by intro q h1 h2; first | exact (h2 : False).elim | ((try simp only [] at h2); omega) | (have h2 : q = _ := h2; subst h2; omega) | (rcases h2 with h2 | h2 | h2 <;> first | omega | (subst h2; omega)))) hxd (by intro q h1 h2; first | exact (h2 : False).elim | ((try simp only [] at h2); omega) | (have h2 : q = _ := h2; subst h2; omega) | (rcases h2 with h2 | h2 | h2 <;> first | omega | (subst h2; omega))))
          have hxs := hx.size
          have hold : ∀ q, q < w.heap.size → col q = col q := fun _ _ => rfl
          have P := h.part (col' := col) (fun v => v = 1) hx hold (fun q hq ht => ht)
          have hst : Stp col w col w6 := ⟨hold, hx.mono (fun q _ t => by (try simp only [] at t); omega)⟩
          have e : s0.rename nm to = (0, s0.did) := by simp only [DS.rename, if_neg hD, hfa, if_neg hr, if_pos h33]
          rw [e]
          exact ⟨rfl, col, ⟨bf, bd, bx, bl, A, n, c, pt, hBd, P.F (by decide), P.G (by decide), P.X (by decide), P.L (by decide), P.M (by decide), P.cb, P.cf, P.cd, P.cx, P.cl, fun q hq => Nat.lt_of_lt_of_le (hlt q hq) hxs, P.pl, fun k q f h1 h2 => P.fl k q f h1 h2 (fun j a1 a2 => by omega)⟩, hst⟩
-- f35 "maps.Clone[map[string]int,string,int]" params [56] results [56] -> [(ResultVar.tmp 2)] nfree 0 ntmps 9
set_option maxHeartbeats 4000000 in
set_option maxRecDepth 100000 in
theorem mapClone_c {b : Nat} {d : DIR} (w : World) (hG : MPD w b d) : Ret Try.prog 35 #[.map (some b)] w fun r w' => r = .map (some w.heap.size) ∧ MPD w' w.heap.size d ∧ Keep w w' ∧ w'.heap.size = w.heap.size + 1 := by
  refine X.enter Try.func35 rfl Try.ntmps35 rfl ?_
  refine X.seq ?_
  refine X.region ?_
  refine X.opw X.wN rfl (X.assign rfl) ?_
  refine X.opsEnd ?_
  refine X.seq ?_
  refine X.seq ?_
  refine X.region ?_
  refine X.opw X.wN rfl (X.move rfl) ?_
  refine X.opw X.wN rfl (X.eqMap1 Try.underlying56 rfl rfl) ?_
  refine X.opsEnd ?_
  refine X.condF rfl ?_
  refine X.skip ?_
  refine X.seq ?_
  refine X.region ?_
  refine X.opw X.wN rfl (X.move rfl) ?_
  refine X.opw X.wN rfl (X.mkIface Try.underlying56 rfl rfl) ?_
  obtain ⟨wc, hrun, hGc, hkc, hzc⟩ := run_mapClone (P := Try.prog) (t := 56) hG
  refine X.opw X.wN rfl (X.externWE Try.func44 (by kernel_rfl) rfl (by kernel_rfl) (by kernel_rfl) rfl rfl hrun) ?_
  refine X.opw X.wN rfl (X.tAssertF Try.underlying56 rfl rfl) ?_
  refine X.opw X.wN rfl (X.assign rfl) ?_
  refine X.opsEnd ?_
  refine X.ret1 Try.func35 Try.results35 rfl ?_
  exact ⟨rfl, hGc, hkc, hzc⟩
-- f10 "(*pedigree/disk.Disk).SyncDir" params [26] results [27] -> [(ResultVar.tmp 2)] nfree 0 ntmps 22 names 
set_option maxHeartbeats 4000000 in
set_option maxRecDepth 100000 in
theorem SyncDir_c {col : Nat → Nat} {b bf bd bx bl : Nat} {A : Option Addr} {n c : Nat} {pt : List Nat} {s0 : DS} (w : World) (h : DkB col w b bf bd bx bl A n c pt s0) (hok : s0.Ok) : Ret Try.prog 10 #[ptrV b] w fun r w' => r = .int .i64 (s0.syncDir).1 ∧ ∃ col', DkR col' w' b (s0.syncDir).2 ∧ Stp col w col' w' := by
  have hbl := h.B.lt
  have hfl := h.F.lt
  have hdl := h.G.lt
  have hxl := h.X.lt
  have hll := h.L.lt
  have hcb := h.cb
  have hcf := h.cf
  have hcd := h.cd
  have hcx := h.cx
  have hcl := h.cl
  obtain ⟨z1, z2, z3, z4, z5, z6, z7, z8, z9, z10⟩ := h.ne
  have hlt := h.lt
  have hok1 := hok.lf
  have hok2 := hok.few
  refine X.enter Try.func10 rfl Try.ntmps10 rfl ?_
  refine X.seq ?_
  refine X.region ?_
  refine X.opw X.wN rfl (X.assign rfl) ?_
  refine X.opsEnd ?_
  refine X.seq ?_
  refine X.seq ?_
  refine X.region ?_
  refine X.opw X.wN rfl (X.move rfl) ?_
  refine X.opE X.wN rfl (X.callE (may_c _ h.B) Try.call25 rfl rfl) ?_
  rintro _ w1 ⟨rfl, hk1⟩
  have hk1' := hk1.size
  refine X.opw X.wN rfl (X.assign (v := .int .i64 _) rfl) ?_
  refine X.opsEnd ?_
  refine X.seq ?_
  refine X.region ?_
  refine X.opw X.wN rfl (X.move (v := .int .i64 _) rfl) ?_
  refine X.opP X.wN rfl rfl (X.neI rfl rfl) (fun h7 => ?_) (fun h7 => ?_)
  · have hd : (s0.fu && decide (s0.lf ≤ 0)) = true := by
      cases hq : (s0.fu && decide (s0.lf ≤ 0)) with
      | true => rfl
      | false => rw [hq] at h7; simp at h7
    have hD : s0.down = true := hd
    refine X.opsEnd ?_
    refine X.condT rfl ?_
    refine X.seq ?_
    refine X.region ?_
    refine X.opw X.wN rfl (X.move (v := .int .i64 _) rfl) ?_
    refine X.opw X.wN rfl (X.assign (v := .int .i64 _) rfl) ?_
    refine X.opsEnd ?_
    refine X.ret1 (v := (.int .i64 _)) Try.func10 Try.results10 rfl ?_
    have e : s0.syncDir = (54, s0) := by simp only [DS.syncDir, if_pos hD]
    rw [e]
    exact ⟨by rw [if_pos hd], col, (h.keep hk1).r, Stp.keep hk1⟩
  · have hd : ¬ (s0.fu && decide (s0.lf ≤ 0)) = true := by
      cases hq : (s0.fu && decide (s0.lf ≤ 0)) with
      | false => simp
      | true => rw [hq] at h7; simp at h7
    have hD : ¬ s0.down = true := hd
    refine X.opsEnd ?_
    refine X.condF rfl ?_
    refine X.skip ?_
    refine X.seq ?_
    refine X.region ?_
    refine X.opw X.wN rfl (X.move rfl) ?_
    refine X.opw X.wN rfl (X.move rfl) ?_
    refine X.opw X.wN rfl (X.move rfl) ?_
    refine X.opw X.wN rfl (X.nilCk rfl) ?_
    refine X.opw X.wN rfl (X.fldB (j := 3) Try.underlying60 rfl rfl Try.sizeOf56 rfl) ?_
    refine X.opw X.wN rfl (X.load1B Try.isAgg56 (h.B.keep hk1) rfl rfl) ?_
    refine X.opE X.wN rfl (X.callE (mapClone_c _ (h.G.keep hk1)) Try.call35 rfl rfl) ?_
    rintro _ w2 ⟨rfl, hGc, hk2, hz2⟩
    refine X.opw X.wN rfl (X.nilCk rfl) ?_
    refine X.opw X.wN rfl (X.fldB (j := 4) Try.underlying60 rfl rfl Try.sizeOf56 rfl) ?_
    refine X.opE X.wN rfl (X.storeE Try.sizeOf56 (h.B.keep (hk1.trans hk2)) rfl rfl rfl rfl) ?_
    rintro _ w3 ⟨hB3, hx3, hz3⟩
    refine X.opw X.wN rfl (X.nilCk rfl) ?_
    refine X.opw X.wN rfl (X.fldB (j := 5) Try.underlying60 rfl rfl Try.sizeOf57 rfl) ?_
    refine X.opE X.wN rfl (X.storeE Try.sizeOf57 hB3 rfl rfl rfl rfl) ?_
    rintro _ w4 ⟨hB4, hx4, hz4⟩
    refine X.opsEnd ?_
    refine X.seq ?_
    refine X.region ?_
    refine X.opw X.wN rfl (X.move rfl) ?_
    refine X.opE X.wN rfl (X.callE (did_c _ hB4 (by omega)) Try.call28 rfl rfl) ?_
    rintro _ w5 ⟨rfl, hBd, hxd⟩
    have hxd' := hxd.size
    refine X.opw X.wN rfl (X.assign (v := .int .i64 _) rfl) ?_
    refine X.opsEnd ?_
    refine X.ret1 (v := (.int .i64 _)) Try.func10 Try.results10 rfl ?_
    have hx : Ext (fun q => col q = 1) w w5 := (Ext.andThen (Ext.andThen (Ext.andThen (Ext.andThen (Ext.andThen (Ext.refl (fun q => col q = 1) _) hk1 (by intro q h1 h2; first | exact (h2 : False).elim | ((try simp only [] at h2); omega) | (have h2 : q = _ := h2; subst h2; omega) | (rcases h2 with h2 | h2 | h2 <;> first | omega | (subst h2; omega)))) hk2 (by intro q h1 h2; first | exact (h2 : False).elim | ((try simp only [] at h2); omega) | (have h2 : q = _ := h2; subst h2; omega) | (rcases h2 with h2 | h2 | h2 <;> first | omega | (subst h2; omega)))) hx3 (by intro q h1 h2; first | exact (h2 : False).elim | ((try simp only [] at h2); omega) | (have h2 : q = _ := h2; subst h2; omega) | (rcases h2 with h2 | h2 | h2 <;> first | omega | (subst h2; omega)))) hx4 (by intro q h1 h2; first | exact (h2 : False).elim | ((try simp only [] at h2); omega) | (have h2 : q = _ := h2; subst h2; omega) | (rcases h2 with h2 | h2 | h2 <;> first | omega | (subst h2; omega)))) hxd (by intro q h1 h2; first | exact (h2 : False).elim | ((try simp only [] at h2); omega) | (have h2 : q = _ := h2; subst h2; omega) | (rcases h2 with h2 | h2 | h2 <;> first | omega | (subst h2; omega))))
    have hxs := hx.size
    obtain ⟨col', hcol⟩ : ∃ col', col' = rec' col w.heap.size w5.heap.size (4) := ⟨_, rfl⟩
    have hold : ∀ q, q < w.heap.size → col' q = col q := fun q hq => by rw [hcol]; exact rec_old hq
    have hnew : ∀ q, w.heap.size ≤ q → q < w5.heap.size → col' q = 4 := fun q h1 h2 => by rw [hcol]; exact rec_new h1 h2
    have hltc : ∀ q, col' q ≠ 0 → q < w5.heap.size := fun q hq => by rw [hcol] at hq; exact rec_lt hlt hxs hq
    have P := h.part (col' := col') (fun v => v = 1) hx hold (fun q hq ht => ht)
    have hst : Stp col w col' w5 := ⟨hold, hx.mono (fun q _ t => by (try simp only [] at t); omega)⟩
    have e : s0.syncDir = (0, ({ s0 with fx := s0.dir, chs := [] } : DS).did) := by simp only [DS.syncDir, if_neg hD]
    rw [e]
    have hcbk : col' w1.heap.size = 4 := hnew _ (by omega) (by omega)
    exact ⟨rfl, col', ⟨bf, bd, w1.heap.size, bl, none, 0, 0, pt, hBd, P.F (by decide), P.G (by decide), (((hGc.ext hx3 (by first | (intros; (try simp only [] at *); omega) | (intro hh; (try simp only [] at hh); omega) | (intro q h1 h2; (try simp only [] at h1 h2); have := hlt q (by omega); omega) | (intro hh; have hh : _ = _ := hh; subst hh; omega) | (intro q h1 h2; have h2 : q = _ := h2; subst h2; (try simp only [] at h1); omega) | (intro q h1 h2; (try simp only [] at h1 h2); omega) | (intro q h1 h2; have h2 : q = _ := h2; have := hlt q (by (try simp only [] at h1); omega); omega) | (intro q h1 h2; (try simp only [] at h1 h2); rcases h2 with h2 | h2 | h2 <;> first | omega | (subst h2; omega)) | (intro q h1 h2; (try simp only [] at h1 h2); rcases h2 with h2 | h2 | h2 | h2 <;> first | omega | (subst h2; omega)))).ext hx4 (by first | (intros; (try simp only [] at *); omega) | (intro hh; (try simp only [] at hh); omega) | (intro q h1 h2; (try simp only [] at h1 h2); have := hlt q (by omega); omega) | (intro hh; have hh : _ = _ := hh; subst hh; omega) | (intro q h1 h2; have h2 : q = _ := h2; subst h2; (try simp only [] at h1); omega) | (intro q h1 h2; (try simp only [] at h1 h2); omega) | (intro q h1 h2; have h2 : q = _ := h2; have := hlt q (by (try simp only [] at h1); omega); omega) | (intro q h1 h2; (try simp only [] at h1 h2); rcases h2 with h2 | h2 | h2 <;> first | omega | (subst h2; omega)) | (intro q h1 h2; (try simp only [] at h1 h2); rcases h2 with h2 | h2 | h2 | h2 <;> first | omega | (subst h2; omega)))).ext hxd (by first | (intros; (try simp only [] at *); omega) | (intro hh; (try simp only [] at hh); omega) | (intro q h1 h2; (try simp only [] at h1 h2); have := hlt q (by omega); omega) | (intro hh; have hh : _ = _ := hh; subst hh; omega) | (intro q h1 h2; have h2 : q = _ := h2; subst h2; (try simp only [] at h1); omega) | (intro q h1 h2; (try simp only [] at h1 h2); omega) | (intro q h1 h2; have h2 : q = _ := h2; have := hlt q (by (try simp only [] at h1); omega); omega) | (intro q h1 h2; (try simp only [] at h1 h2); rcases h2 with h2 | h2 | h2 <;> first | omega | (subst h2; omega)) | (intro q h1 h2; (try simp only [] at h1 h2); rcases h2 with h2 | h2 | h2 | h2 <;> first | omega | (subst h2; omega)))), P.L (by decide), Mine.nil _ _ _ _ _ _, P.cb, P.cf, P.cd, hcbk, P.cl, hltc, P.pl, fun k q f h1 h2 => P.fl k q f h1 h2 (fun j a1 a2 => by omega)⟩, hst⟩
end Go.Proofs.Ytcdebnppbnmmgaa

namespace Go.Proofs.Ytcdebnppbnmmgaa
open Go Go.Proofs.Ytcdebnppbnmmgaa.X
set_option linter.unusedVariables false
set_option linter.unusedSimpArgs false
theorem E8d : ElemInfo Try.prog 5 1 1 := ElemInfo.of (z := .int .u8 0) (by kernel_rfl) rfl rfl rfl
abbrev encPl (x : Int × Int) : Value := .agg #[.int .i64 x.1, .int .i64 x.2]
theorem eqPl (a b : Int × Int) (w : World) : (Op.equalIn 10000 82 (encPl a) (encPl b)).run Try.prog w = .ok (decide (a = b)) w := by
  rw [run_equalIn_struct w 9999 _ _ _ (by simp [Program.fieldsOf, Try.underlying82]) (by kernel_rfl)]
  simp only [Program.fieldsOf, Try.underlying82]
  simp [Op.eqFields, part, Try.isAgg3, run_equalIn_int _ 9998 3 .i64 .i64 _ _ Try.underlying3]
  obtain ⟨a1, a2⟩ := a
  obtain ⟨b1, b2⟩ := b
  by_cases h1 : a1 = b1 <;> by_cases h2 : a2 = b2 <;> simp [h1, h2]
theorem checkPl (em : Bool) (n : Nat) (x : Int × Int) (w : World) : (Instr.checkKey em (n + 2) 82 (encPl x)).run Try.prog w = .ok () w := by
  have h2 : ∀ (i : Int) w, (Instr.checkKey em (n + 1) 3 (.int .i64 i)).run Try.prog w = .ok () w := fun i w => by simp [Instr.checkKey, run_underlying Try.underlying3]
  rw [Instr.checkKey]
  simp [run_underlying Try.underlying82, part, Try.isAgg3, h2]
theorem bitsPl (n : Nat) (x : Int × Int) : Instr.sameBits (n + 2) (encPl x) (encPl x) = true := by
  have h2 : ∀ i : Int, Instr.sameBits (n + 1) (.int .i64 i) (.int .i64 i) = true := fun i => by simp [Instr.sameBits]
  rw [Instr.sameBits]
  simp [h2]
theorem keyPl : KeyT Try.prog 82 (fun x : Int × Int => encPl x) :=
  keyStruct Try.underlying82 (fun em x w => checkPl em 9998 x w) (fun x y w => eqPl x y w) (fun x => bitsPl 9998 x)
-- f32 "slices.Clone[[]byte,byte]" params [22] results [22] -> [(ResultVar.tmp 2)] nfree 0 ntmps 8 names ["s",
set_option maxHeartbeats 4000000 in
set_option maxRecDepth 100000 in
theorem CloneB_c {lo hi : Nat} {A : Option Addr} {n c : Nat} {l : List UInt8} (w : World) (hs : Sl KB lo hi w A n l) (hn : n ≤ 100000000) : Ret Try.prog 32 #[.slice A n c] w fun r w' => ∃ A' c', r = .slice A' n c' ∧ n ≤ c' ∧ Mine KB 5 (fun k => w.heap.size ≤ k ∧ k < w'.heap.size) 0 0 w' (.slice A' n c') l ∧ Keep w w' := by
  have hl := hs.len
  refine X.enter Try.func32 rfl Try.ntmps32 rfl ?_
  refine X.seq ?_
  refine X.region ?_
  refine X.opw X.wN rfl (X.assign rfl) ?_
  refine X.opsEnd ?_
  refine X.seq ?_
  refine X.seq ?_
  refine X.region ?_
  refine X.opw X.wN rfl (X.move (v := .slice _ _ _) rfl) ?_
  refine X.opB X.wN rfl rfl (X.eqNil Try.underlying22 rfl rfl) (fun h4 => ?_) (fun h4 => ?_)
  · refine X.opsEnd ?_
    refine X.condT rfl ?_
    refine X.seq ?_
    refine X.region ?_
    refine X.opw X.wN rfl (X.assign rfl) ?_
    refine X.opsEnd ?_
    refine X.ret1 Try.func32 Try.results32 rfl ?_
    have hq : n = 0 := by
      rcases Nat.eq_zero_or_pos n with h | h
      · exact h
      · obtain ⟨ad, e, _⟩ := hs.at_ h
        subst e; simp at h4
    subst hq
    have hq : l = [] := List.eq_nil_of_length_eq_zero hl
    subst hq
    exact ⟨none, 0, rfl, Nat.le_refl _, Mine.nil _ _ _ _ _ _, (Keep.refl _)⟩
  · refine X.opsEnd ?_
    refine X.condF rfl ?_
    refine X.skip ?_
    refine X.seq ?_
    refine X.region ?_
    refine X.opE X.wN rfl (X.lit0E (K := KB) (S := fun k => w.heap.size ≤ k) Try.underlying22 Try.sizeOf5 (by intros; (try simp only [] at *); omega)) ?_
    rintro v1 w1 ⟨hM1, hk1, hz1⟩
    refine X.opw X.wN rfl (X.move (v := .slice _ _ _) rfl) ?_
    refine X.opE X.wN rfl (X.appE (K := KB) (S := fun k => w.heap.size ≤ k) KB_flat Try.underlying22 E8d rfl rfl hM1 (hs.keep hk1) (by (try simp only [List.length_append, List.length_cons, List.length_nil, List.length_take, List.length_drop, List.length_map, List.length_range]); omega) (by intros; (try simp only [] at *); omega)) ?_
    rintro v2 w2 ⟨hM2, hx2⟩
    have hx2' := hx2.size
    refine X.opw X.wN rfl (X.assign rfl) ?_
    refine X.opsEnd ?_
    refine X.ret1 Try.func32 Try.results32 rfl ?_
    have hMx := hM2
    obtain ⟨A', c', e, hc', _⟩ := hMx.slice
    subst e
    have e2 : ([] ++ l).length = n := by simp [hl]
    rw [e2] at hMx hc'
    exact ⟨A', c', by rw [e2]; rfl, hc', hMx.mono fun k hk h => ⟨h, hk⟩, (hk1.step hx2 (by intros; (try simp only [] at *); omega))⟩
-- f34 "(*pedigree/disk.Disk).Sync$1" params [82, 4] results [4] -> [(ResultVar.tmp 5)] nfree 1 ntmps 10 names
set_option maxHeartbeats 4000000 in
set_option maxRecDepth 100000 in
theorem Sync1_c {bn : Nat} {k : Int} (p : Int × Int) (q : Bool) (w : World) (hB : Blk w bn [.int .i64 k] 3) : Ret Try.prog 34 #[encPl p, .bool q, ptrV bn] w fun r w' => r = .bool (decide (p.1 = k)) ∧ Keep w w' := by
  refine X.enter Try.func34 rfl Try.ntmps34 rfl ?_
  refine X.seq ?_
  refine X.region ?_
  refine X.opE X.wN rfl (X.boxE rfl rfl) ?_
  rintro _ w1 ⟨rfl, hB1, hk1, hz1⟩
  refine X.opw X.wN rfl (X.assign rfl) ?_
  refine X.opsEnd ?_
  refine X.seq ?_
  refine X.region ?_
  refine X.opw X.wN rfl (X.fldB (j := 0) Try.underlying82 rfl rfl Try.sizeOf3 rfl) ?_
  refine X.opw X.wN rfl (X.load1B Try.isAgg3 hB1 rfl rfl) ?_
  refine X.opw X.wN rfl (X.load1B Try.isAgg3 (hB.keep hk1) rfl rfl) ?_
  refine X.opw X.wN rfl (X.eqI rfl rfl) ?_
  refine X.opw X.wN rfl (X.assign (v := .bool _) rfl) ?_
  refine X.opsEnd ?_
  refine X.ret1 (v := (.bool _)) Try.func34 Try.results34 rfl ?_
  exact ⟨rfl, hk1⟩
abbrev LS := List ((Int × Int) × Bool)
/-- What is struck, so far. -/
def kpt (k : Int) (ds : List (Int × Int)) (l : LS) : LS := l.filter fun p => !(decide (p.1 ∈ ds) && decide (p.1.1 = k))
theorem kpt_nil (k : Int) (l : LS) : kpt k [] l = l := by
  rw [kpt, List.filter_eq_self]
  intro p _; simp
theorem kpt_sub (k : Int) (ds : List (Int × Int)) (l : LS) : ∀ p, p ∈ kpt k ds l → p ∈ l := fun p h => (List.mem_filter.1 h).1
theorem kpt_nd {k : Int} {ds : List (Int × Int)} {l : LS} (h : (l.map (·.1)).Nodup) : ((kpt k ds l).map (·.1)).Nodup := h.sublist (List.filter_sublist.map _)
theorem kpt_keep {k : Int} {ds : List (Int × Int)} {l : LS} {a : Int × Int} (h : a.1 ≠ k) : kpt k (a :: ds) l = kpt k ds l := by
  rw [kpt, kpt]
  congr 1
  funext p
  by_cases e : p.1 = a
  · rw [e]; simp [h]
  · simp [e]
theorem kpt_del {k : Int} {ds : List (Int × Int)} {l : LS} {a : Int × Int} (hn : (l.map (·.1)).Nodup) (h : a.1 = k) : del a (kpt k ds l) = kpt k (a :: ds) l := by
  rw [del_eq (kpt_nd hn), kpt, kpt, List.filter_filter]
  congr 1
  funext p
  by_cases e : p.1 = a
  · rw [e]; simp [h]
  · simp [e]
theorem kpt_all {k : Int} {ds : List (Int × Int)} {l : LS} (h : ∀ p, p ∈ kpt k ds l → p.1 ∈ ds) : kpt k ds l = l.filter fun p => decide (p.1.1 ≠ k) := by
  rw [kpt]
  apply List.filter_congr
  intro p hp
  by_cases e : p.1.1 = k
  · by_cases hd : p.1 ∈ ds
    · simp [e, hd]
    · exact absurd (h p (List.mem_filter.2 ⟨hp, by simp [hd]⟩)) hd
  · simp [e]
theorem kpt_mv (k : Int) (ds : List (Int × Int)) (l : LS) {p : (Int × Int) × Value} (h : p ∈ mv (fun v : Bool => Value.bool v) (kpt k ds l)) : ∃ q, q ∈ kpt k ds l ∧ p = (q.1, .bool q.2) := by
  obtain ⟨q, hq, e⟩ := List.mem_map.1 h
  exact ⟨q, hq, e.symm⟩
-- f33 "maps.DeleteFunc[map[pedigree/disk.place]bool,pedigree/disk.place,bool]" params [58, 85] results [] -> 
set_option maxHeartbeats 4000000 in
set_option maxRecDepth 100000 in
theorem DelFunc_c {b bn : Nat} {k : Int} {l : LS} (w : World) (hL : MPL w b l) (hB : Blk w bn [.int .i64 k] 3) (hne : bn ≠ b) : Ret Try.prog 33 #[.map (some b), .func (.func 34) #[] #[ptrV bn]] w fun r w' => r = .tuple #[] ∧ MPL w' b (l.filter fun p => decide (p.1.1 ≠ k)) ∧ Ext (fun q => q = b) w w' := by
  have hbl := hL.lt
  have hBn := hB.lt
  have hndl : (l.map (·.1)).Nodup := by
    have := hL.nodup
    rw [mv, List.map_map] at this
    exact this
  refine X.enter Try.func33 rfl Try.ntmps33 rfl ?_
  refine X.seq ?_
  refine X.region ?_
  refine X.opw X.wN rfl (X.move rfl) ?_
  refine X.opE X.wN rfl (X.rangeE (enc := (fun x : Int × Int => Value.agg #[.int .i64 x.1, .int .i64 x.2])) Try.underlying58 hL rfl) ?_
  rintro _ w1 ⟨rfl, hI1, hk1, hz1⟩
  refine X.opsEnd ?_
  refine X.block ?_
  -- LOOP live: 0=m, 1=del, 7
  refine X.loopL (σ := List (Int × Int)) (fun s => [(0, .map (some b)), (1, .func (.func 34) #[] #[ptrV bn]), (7, .pointer (some ⟨w.heap.size, 0, none⟩))]) (fun s w' => ItW (fun x : Int × Int => encPl x) w' w.heap.size b (mv (fun v : Bool => Value.bool v) (kpt k s l)) s ∧ s.Nodup ∧ (∀ a, a ∈ s → a ∈ l.map (·.1)) ∧ Blk w' bn [.int .i64 k] 3 ∧ Ext (fun q => q = b) w w') (fun s => l.length + 1 - s.length) [] ⟨rfl, rfl, rfl, trivial⟩ ⟨by rw [kpt_nil]; exact (hI1).weak, List.nodup_nil, fun _ h => (by simp at h), (hB.keep hk1), (hk1).mono (fun _ _ h => h.elim)⟩ ?_
  rintro ds e w1 ⟨hI, hnd, hin, hBl, hx0⟩ hback
  have hx0' := hx0.size
  have hIl := hI.lt
  refine X.seq ?_
  refine X.region ?_
  refine X.opE X.wN rfl (X.nextWE hI rfl) ?_
  rintro _ w2 (⟨rfl, hall2, rfl⟩ | ⟨p2, hp2, hpn2, rfl, hI2, hx2, hz2⟩)
  · 
    refine X.opw X.wN rfl (X.extr rfl rfl) ?_
    refine X.opsEnd ?_
    refine X.seq ?_
    refine X.condF rfl ?_
    refine X.exit rfl ?_
    refine X.end0 Try.func33 Try.results33 ?_
    refine ⟨rfl, ?_, hx0⟩
    have e := kpt_all (fun p hp => hall2 (p.1, .bool p.2) (List.mem_map.2 ⟨p, hp, rfl⟩))
    rw [MPL, MpV, ← e]
    exact hI.mp
  · have hx2' := hx2.size
    obtain ⟨q, hq, rfl⟩ := kpt_mv k ds l hp2
    dsimp only at hpn2 hI2
    refine X.opw X.wN rfl (X.extr rfl rfl) ?_
    refine X.opsEnd ?_
    refine X.seq ?_
    refine X.condT rfl ?_
    refine X.skip ?_
    refine X.block ?_
    refine X.seq ?_
    refine X.region ?_
    refine X.opw X.wN rfl (X.entryE hI2 hp2 rfl) ?_
    refine X.opw X.wN rfl (X.extr rfl rfl) ?_
    refine X.opw X.wN rfl (X.extr rfl rfl) ?_
    refine X.opE X.wN rfl (X.allocE Try.zeroValue82 rfl) ?_
    rintro _ w3 ⟨rfl, hB3, hk3, hz3⟩
    refine X.opE X.wN rfl (X.storeNE Try.sizeOf82 hB3 rfl rfl rfl rfl (fun u hu => by simp at hu; rcases hu with rfl | rfl <;> rfl)) ?_
    rintro _ w4 ⟨hB4, hx4, hz4⟩
    refine X.opw X.wN rfl (X.assign (v := .bool _) rfl) ?_
    refine X.opsEnd ?_
    refine X.seq ?_
    refine X.region ?_
    refine X.opw X.wN rfl (X.move rfl) ?_
    refine X.opw X.wN rfl (X.loadNB Try.isAgg82 Try.sizeOf82 hB4 rfl rfl rfl) ?_
    refine X.opw X.wN rfl (X.move (v := .bool _) rfl) ?_
    refine X.opE X.wN rfl (X.callVE (vs := [_, _]) rfl (Sync1_c q.1 q.2 _ ((hBl.ext hx2 (by first | (intros; (try simp only [] at *); omega) | (intro hh; have hh : _ = _ := hh; omega))).keep (hk3.step hx4 (by intros; (try simp only [] at *); omega)))) Try.call34 rfl) ?_
    rintro _ w5 ⟨rfl, hk5⟩
    have hk5' := hk5.size
    refine X.opsEnd ?_
    refine X.condB rfl (fun hc => ?_) (fun hc => ?_)
    · refine X.region ?_
      refine X.opw X.wN rfl (X.move rfl) ?_
      refine X.opw X.wN rfl (X.loadNB Try.isAgg82 Try.sizeOf82 (hB4.keep hk5) rfl rfl rfl) ?_
      refine X.opE X.wN rfl (X.deleteItE Try.underlying58 keyPl (It.weak (((hI2.keep hk3).ext hx4 (by intro hh; (try simp only [] at hh); omega) (by intro hh; (try simp only [] at hh); omega)).keep hk5)) List.mem_cons_self rfl rfl) ?_
      rintro _ w6 ⟨rfl, hD6, hx6, hz6⟩
      refine X.opsEnd ?_
      refine X.inBlock ?_
      refine hback (q.1 :: ds) _ _ ⟨rfl, rfl, rfl, trivial⟩ ⟨(by rw [← kpt_del hndl (by simpa using hc), ← del_mv]; exact hD6), List.nodup_cons.2 ⟨hpn2, hnd⟩, (fun a ha => (List.mem_cons.1 ha).elim (fun e => by rw [e]; exact List.mem_map.2 ⟨q, kpt_sub k ds l q hq, rfl⟩) (hin a)), (((hBl.ext hx2 (by first | (intros; (try simp only [] at *); omega) | (intro hh; have hh : _ = _ := hh; omega))).keep ((hk3.step hx4 (by intros; (try simp only [] at *); omega)).trans hk5)).ext hx6 (by first | (intros; (try simp only [] at *); omega) | (intro hh; have hh : _ = _ := hh; omega))), (Ext.andThen (Ext.andThen (Ext.andThen (Ext.andThen (Ext.andThen (Ext.andThen (Ext.refl (fun q => q = b) _) hx0 (by intro q h1 h2; first | exact (h2 : False).elim | ((try simp only [] at h2); omega))) hx2 (by intro q h1 h2; first | exact (h2 : False).elim | ((try simp only [] at h2); omega))) hk3 (by intro q h1 h2; first | exact (h2 : False).elim | ((try simp only [] at h2); omega))) hx4 (by intro q h1 h2; first | exact (h2 : False).elim | ((try simp only [] at h2); omega))) hk5 (by intro q h1 h2; first | exact (h2 : False).elim | ((try simp only [] at h2); omega))) hx6 (by intro q h1 h2; first | exact (h2 : False).elim | ((try simp only [] at h2); omega)))⟩ (by have := nodup_len (ks := l.map (·.1)) (List.nodup_cons.2 ⟨hpn2, hnd⟩) (fun a ha => (List.mem_cons.1 ha).elim (fun e => by rw [e]; exact List.mem_map.2 ⟨q, kpt_sub k ds l q hq, rfl⟩) (hin a)); simp only [List.length_map, List.length_cons] at this ⊢; omega)
    · refine X.skip ?_
      refine X.inBlock ?_
      refine hback (q.1 :: ds) _ _ ⟨rfl, rfl, rfl, trivial⟩ ⟨(by rw [kpt_keep (by simpa using hc)]; exact It.weak (((hI2.keep hk3).ext hx4 (by intro hh; (try simp only [] at hh); omega) (by intro hh; (try simp only [] at hh); omega)).keep hk5)), List.nodup_cons.2 ⟨hpn2, hnd⟩, (fun a ha => (List.mem_cons.1 ha).elim (fun e => by rw [e]; exact List.mem_map.2 ⟨q, kpt_sub k ds l q hq, rfl⟩) (hin a)), ((hBl.ext hx2 (by first | (intros; (try simp only [] at *); omega) | (intro hh; have hh : _ = _ := hh; omega))).keep ((hk3.step hx4 (by intros; (try simp only [] at *); omega)).trans hk5)), (Ext.andThen (Ext.andThen (Ext.andThen (Ext.andThen (Ext.andThen (Ext.refl (fun q => q = b) _) hx0 (by intro q h1 h2; first | exact (h2 : False).elim | ((try simp only [] at h2); omega))) hx2 (by intro q h1 h2; first | exact (h2 : False).elim | ((try simp only [] at h2); omega))) hk3 (by intro q h1 h2; first | exact (h2 : False).elim | ((try simp only [] at h2); omega))) hx4 (by intro q h1 h2; first | exact (h2 : False).elim | ((try simp only [] at h2); omega))) hk5 (by intro q h1 h2; first | exact (h2 : False).elim | ((try simp only [] at h2); omega)))⟩ (by have := nodup_len (ks := l.map (·.1)) (List.nodup_cons.2 ⟨hpn2, hnd⟩) (fun a ha => (List.mem_cons.1 ha).elim (fun e => by rw [e]; exact List.mem_map.2 ⟨q, kpt_sub k ds l q hq, rfl⟩) (hin a)); simp only [List.length_map, List.length_cons] at this ⊢; omega)
end Go.Proofs.Ytcdebnppbnmmgaa

namespace Go.Proofs.Ytcdebnppbnmmgaa
open Go Go.Proofs.Ytcdebnppbnmmgaa.X
set_option linter.unusedVariables false
set_option linter.unusedSimpArgs false
def fat (fs : List FILE) (k : Int) : FILE := fs.getD k.toNat ([], [])
theorem fat_at {fs : List FILE} {k : Int} {f : FILE} (h : fs[k.toNat]? = some f) : fat fs k = f := by rw [fat, List.getD_eq_getElem?_getD, h]; rfl
def DS.sync (nm : ByteArray) (s : DS) : Int × DS :=
  if s.down = true then (54, s) else match asc nm s.dir with
  | none => (52, s)
  | some k => (0, ({ s with fs := s.fs.set k.toNat ((fat s.fs k).1, (fat s.fs k).1), ls := s.ls.filter fun p => decide (p.1.1 ≠ k) } : DS).did)
-- f9 "(*pedigree/disk.Disk).Sync" params [26, 9] results [27] -> [(ResultVar.tmp 4)] nfree 0 ntmps 39 names [
set_option maxHeartbeats 4000000 in
set_option maxRecDepth 100000 in
theorem Sync_c {col : Nat → Nat} {b bf bd bx bl : Nat} {A : Option Addr} {n c : Nat} {pt : List Nat} {s0 : DS} (nm : ByteArray) (w : World) (h : DkB col w b bf bd bx bl A n c pt s0) (hok : s0.Ok) (hnm : nm.size ≤ 9223372036854775807) : Ret Try.prog 9 #[ptrV b, .string nm] w fun r w' => r = .int .i64 (s0.sync nm).1 ∧ ∃ col', DkR col' w' b (s0.sync nm).2 ∧ Stp col w col' w' := by
  have hbl := h.B.lt
  have hfl := h.F.lt
  have hdl := h.G.lt
  have hxl := h.X.lt
  have hll := h.L.lt
  have hcb := h.cb
  have hcf := h.cf
  have hcd := h.cd
  have hcx := h.cx
  have hcl := h.cl
  obtain ⟨z1, z2, z3, z4, z5, z6, z7, z8, z9, z10⟩ := h.ne
  have hlt := h.lt
  have hok1 := hok.lf
  have hok2 := hok.few
  refine X.enter Try.func9 rfl Try.ntmps9 rfl ?_
  refine X.seq ?_
  refine X.region ?_
  refine X.opw X.wN rfl (X.assign rfl) ?_
  refine X.opsEnd ?_
  refine X.seq ?_
  refine X.seq ?_
  refine X.region ?_
  refine X.opw X.wN rfl (X.move rfl) ?_
  refine X.opE X.wN rfl (X.callE (may_c _ h.B) Try.call25 rfl rfl) ?_
  rintro _ w1 ⟨rfl, hk1⟩
  have hk1' := hk1.size
  refine X.opw X.wN rfl (X.assign (v := .int .i64 _) rfl) ?_
  refine X.opsEnd ?_
  refine X.seq ?_
  refine X.region ?_
  refine X.opw X.wN rfl (X.move (v := .int .i64 _) rfl) ?_
  refine X.opP X.wN rfl rfl (X.neI rfl rfl) (fun h12 => ?_) (fun h12 => ?_)
  · have hd : (s0.fu && decide (s0.lf ≤ 0)) = true := by
      cases hq : (s0.fu && decide (s0.lf ≤ 0)) with
      | true => rfl
      | false => rw [hq] at h12; simp at h12
    have hD : s0.down = true := hd
    refine X.opsEnd ?_
    refine X.condT rfl ?_
    refine X.seq ?_
    refine X.region ?_
    refine X.opw X.wN rfl (X.move (v := .int .i64 _) rfl) ?_
    refine X.opw X.wN rfl (X.assign (v := .int .i64 _) rfl) ?_
    refine X.opsEnd ?_
    refine X.ret1 (v := (.int .i64 _)) Try.func9 Try.results9 rfl ?_
    have e : s0.sync nm = (54, s0) := by simp only [DS.sync, if_pos hD]
    rw [e]
    exact ⟨by rw [if_pos hd], col, (h.keep hk1).r, Stp.keep hk1⟩
  · have hd : ¬ (s0.fu && decide (s0.lf ≤ 0)) = true := by
      cases hq : (s0.fu && decide (s0.lf ≤ 0)) with
      | false => simp
      | true => rw [hq] at h12; simp at h12
    have hD : ¬ s0.down = true := hd
    refine X.opsEnd ?_
    refine X.condF rfl ?_
    refine X.skip ?_
    refine X.seq ?_
    refine X.region ?_
    refine X.opw X.wN rfl (X.move rfl) ?_
    refine X.opw X.wN rfl (X.move (v := .string _) rfl) ?_
    refine X.opE X.wN rfl (X.callE (named_c nm _ (h.B.keep hk1) (h.G.keep hk1) (h.F.keep hk1)) Try.call29 rfl rfl) ?_
    rintro _ w2 ⟨rfl, hk2⟩
    have hk2' := hk2.size
    refine X.opw X.wN rfl (X.move rfl) ?_
    refine X.opw X.wN rfl (X.extr rfl rfl) ?_
    refine X.opw X.wN rfl (X.extr rfl rfl) ?_
    refine X.opw X.wN rfl (X.extr rfl rfl) ?_
    refine X.opE X.wN rfl (X.allocE Try.zeroValue3 rfl) ?_
    rintro _ w3 ⟨rfl, hB3, hk3, hz3⟩
    refine X.opE X.wN rfl (X.storeE Try.sizeOf3 hB3 rfl rfl rfl rfl) ?_
    rintro _ w4 ⟨hB4, hx4, hz4⟩
    refine X.opw X.wN rfl (X.assign rfl) ?_
    refine X.opw X.wN rfl (X.assign (v := .bool _) rfl) ?_
    refine X.opsEnd ?_
    refine X.seq ?_
    refine X.seq ?_
    refine X.region ?_
    refine X.opw X.wN rfl (X.move (v := .bool _) rfl) ?_
    refine X.opw X.wN rfl (X.not_ rfl) ?_
    refine X.opsEnd ?_
    refine X.condB rfl (fun hc => ?_) (fun hc => ?_)
    · have hno : asc nm s0.dir = none := by
        cases ha : asc nm s0.dir with
        | none => rfl
        | some k => rw [ha] at hc; simp at hc
      refine X.seq ?_
      refine X.region ?_
      refine X.opw X.wN rfl (X.assign rfl) ?_
      refine X.opsEnd ?_
      refine X.ret1 (v := (.int .i64 _)) Try.func9 Try.results9 rfl ?_
      have e : s0.sync nm = (52, s0) := by simp only [DS.sync, if_neg hD, hno]
      rw [e]
      exact ⟨rfl, col, (h.keep (((hk1.trans hk2).trans hk3).step hx4 (by intros; (try simp only [] at *); omega))).r, Stp.keep (((hk1.trans hk2).trans hk3).step hx4 (by intros; (try simp only [] at *); omega))⟩
    · obtain ⟨k, hfa⟩ : ∃ k, asc nm s0.dir = some k := by
        cases ha : asc nm s0.dir with
        | none => rw [ha] at hc; simp at hc
        | some k => exact ⟨k, rfl⟩
      obtain ⟨hka, hkb, _⟩ := hok.dir _ (asc_some hfa)
      have hka : 0 ≤ k := hka
      have hkb : k < s0.fs.length := hkb
      obtain ⟨pf, f, A1, n1, c1, A2, n2, c2, hfb, hpf, hff, hn1, hn2, hfl1, hpc, hBf, hM1, hM2⟩ := h.at_ hka hkb
      have hlf := hok.len hff
      have hpl2 := hBf.lt
      rw [hfa, Option.getD_some, hfb, Option.getD_some]
      rw [hfa, Option.getD_some] at hB4
      refine X.skip ?_
      refine X.seq ?_
      refine X.region ?_
      refine X.opw X.wN rfl (X.move rfl) ?_
      refine X.opw X.wN rfl (X.move rfl) ?_
      refine X.opw X.wN rfl (X.nilCk rfl) ?_
      refine X.opw X.wN rfl (X.fldB (j := 0) Try.underlying73 rfl rfl Try.sizeOf22 rfl) ?_
      refine X.opw X.wN rfl (X.load1B Try.isAgg22 (hBf.keep (((hk1.trans hk2).trans hk3).step hx4 (by intros; (try simp only [] at *); omega))) rfl rfl) ?_
      refine X.opE X.wN rfl (X.callE (CloneB_c _ ((((((hM1.keep hk1).keep hk2).keep hk3).ext hx4 (by intros; omega) (by first | (intros; (try simp only [] at *); omega) | (intro hh; (try simp only [] at hh); omega) | (intro q h1 h2; (try simp only [] at h1 h2); have := hlt q (by omega); omega) | (intro hh; have hh : _ = _ := hh; subst hh; omega) | (intro q h1 h2; have h2 : q = _ := h2; subst h2; (try simp only [] at h1); omega) | (intro q h1 h2; (try simp only [] at h1 h2); omega) | (intro q h1 h2; have h2 : q = _ := h2; have := hlt q (by (try simp only [] at h1); omega); omega) | (intro q h1 h2; (try simp only [] at h1 h2); rcases h2 with h2 | h2 | h2 <;> first | omega | (subst h2; omega)) | (intro q h1 h2; (try simp only [] at h1 h2); rcases h2 with h2 | h2 | h2 | h2 <;> first | omega | (subst h2; omega))))).rd KB_flat).2 (by omega)) Try.call32 rfl rfl) ?_
      rintro _ w5 ⟨A', c', rfl, hcc, hMc, hk5⟩
      have hk5' := hk5.size
      refine X.opw X.wN rfl (X.nilCk rfl) ?_
      refine X.opw X.wN rfl (X.fldB (j := 1) Try.underlying73 rfl rfl Try.sizeOf22 rfl) ?_
      refine X.opE X.wN rfl (X.storeE Try.sizeOf22 (hBf.keep ((((hk1.trans hk2).trans hk3).step hx4 (by intros; (try simp only [] at *); omega)).trans hk5)) rfl rfl rfl rfl) ?_
      rintro _ w6 ⟨hB6, hx6, hz6⟩
      refine X.opsEnd ?_
      refine X.seq ?_
      refine X.region ?_
      refine X.opw X.wN rfl (X.move rfl) ?_
      refine X.opw X.wN rfl (X.nilCk rfl) ?_
      refine X.opw X.wN rfl (X.fldB (j := 6) Try.underlying60 rfl rfl Try.sizeOf58 rfl) ?_
      refine X.opw X.wN rfl (X.load1B Try.isAgg58 ((h.B.keep ((((hk1.trans hk2).trans hk3).step hx4 (by intros; (try simp only [] at *); omega)).trans hk5)).ext hx6 (by first | (intros; (try simp only [] at *); omega) | (intro hh; (try simp only [] at hh); omega) | (intro q h1 h2; (try simp only [] at h1 h2); have := hlt q (by omega); omega) | (intro hh; have hh : _ = _ := hh; subst hh; omega) | (intro q h1 h2; have h2 : q = _ := h2; subst h2; (try simp only [] at h1); omega) | (intro q h1 h2; (try simp only [] at h1 h2); omega) | (intro q h1 h2; have h2 : q = _ := h2; have := hlt q (by (try simp only [] at h1); omega); omega) | (intro q h1 h2; (try simp only [] at h1 h2); rcases h2 with h2 | h2 | h2 <;> first | omega | (subst h2; omega)) | (intro q h1 h2; (try simp only [] at h1 h2); rcases h2 with h2 | h2 | h2 | h2 <;> first | omega | (subst h2; omega)))) rfl rfl) ?_
      refine X.opw X.wN rfl (X.mkFunc rfl) ?_
      refine X.opE X.wN rfl (X.callE (DelFunc_c _ ((((((h.L.keep hk1).keep hk2).keep hk3).ext hx4 (by first | (intros; (try simp only [] at *); omega) | (intro hh; (try simp only [] at hh); omega) | (intro q h1 h2; (try simp only [] at h1 h2); have := hlt q (by omega); omega) | (intro hh; have hh : _ = _ := hh; subst hh; omega) | (intro q h1 h2; have h2 : q = _ := h2; subst h2; (try simp only [] at h1); omega) | (intro q h1 h2; (try simp only [] at h1 h2); omega) | (intro q h1 h2; have h2 : q = _ := h2; have := hlt q (by (try simp only [] at h1); omega); omega) | (intro q h1 h2; (try simp only [] at h1 h2); rcases h2 with h2 | h2 | h2 <;> first | omega | (subst h2; omega)) | (intro q h1 h2; (try simp only [] at h1 h2); rcases h2 with h2 | h2 | h2 | h2 <;> first | omega | (subst h2; omega)))).keep hk5).ext hx6 (by first | (intros; (try simp only [] at *); omega) | (intro hh; (try simp only [] at hh); omega) | (intro q h1 h2; (try simp only [] at h1 h2); have := hlt q (by omega); omega) | (intro hh; have hh : _ = _ := hh; subst hh; omega) | (intro q h1 h2; have h2 : q = _ := h2; subst h2; (try simp only [] at h1); omega) | (intro q h1 h2; (try simp only [] at h1 h2); omega) | (intro q h1 h2; have h2 : q = _ := h2; have := hlt q (by (try simp only [] at h1); omega); omega) | (intro q h1 h2; (try simp only [] at h1 h2); rcases h2 with h2 | h2 | h2 <;> first | omega | (subst h2; omega)) | (intro q h1 h2; (try simp only [] at h1 h2); rcases h2 with h2 | h2 | h2 | h2 <;> first | omega | (subst h2; omega)))) ((hB4.keep hk5).ext hx6 (by first | (intros; (try simp only [] at *); omega) | (intro hh; (try simp only [] at hh); omega) | (intro q h1 h2; (try simp only [] at h1 h2); have := hlt q (by omega); omega) | (intro hh; have hh : _ = _ := hh; subst hh; omega) | (intro q h1 h2; have h2 : q = _ := h2; subst h2; (try simp only [] at h1); omega) | (intro q h1 h2; (try simp only [] at h1 h2); omega) | (intro q h1 h2; have h2 : q = _ := h2; have := hlt q (by (try simp only [] at h1); omega); omega) | (intro q h1 h2; (try simp only [] at h1 h2); rcases h2 with h2 | h2 | h2 <;> first | omega | (subst h2; omega)) | (intro q h1 h2; (try simp only [] at h1 h2); rcases h2 with h2 | h2 | h2 | h2 <;> first | omega | (subst h2; omega)))) (by omega)) Try.call33 rfl rfl) ?_
      rintro _ w7 ⟨rfl, hLd, hx7⟩
      have hx7' := hx7.size
      refine X.opsEnd ?_
      refine X.seq ?_
      refine X.region ?_
      refine X.opw X.wN rfl (X.move rfl) ?_
      refine X.opE X.wN rfl (X.callE (did_c _ (((h.B.keep ((((hk1.trans hk2).trans hk3).step hx4 (by intros; (try simp only [] at *); omega)).trans hk5)).ext hx6 (by first | (intros; (try simp only [] at *); omega) | (intro hh; (try simp only [] at hh); omega) | (intro q h1 h2; (try simp only [] at h1 h2); have := hlt q (by omega); omega) | (intro hh; have hh : _ = _ := hh; subst hh; omega) | (intro q h1 h2; have h2 : q = _ := h2; subst h2; (try simp only [] at h1); omega) | (intro q h1 h2; (try simp only [] at h1 h2); omega) | (intro q h1 h2; have h2 : q = _ := h2; have := hlt q (by (try simp only [] at h1); omega); omega) | (intro q h1 h2; (try simp only [] at h1 h2); rcases h2 with h2 | h2 | h2 <;> first | omega | (subst h2; omega)) | (intro q h1 h2; (try simp only [] at h1 h2); rcases h2 with h2 | h2 | h2 | h2 <;> first | omega | (subst h2; omega)))).ext hx7 (by first | (intros; (try simp only [] at *); omega) | (intro hh; (try simp only [] at hh); omega) | (intro q h1 h2; (try simp only [] at h1 h2); have := hlt q (by omega); omega) | (intro hh; have hh : _ = _ := hh; subst hh; omega) | (intro q h1 h2; have h2 : q = _ := h2; subst h2; (try simp only [] at h1); omega) | (intro q h1 h2; (try simp only [] at h1 h2); omega) | (intro q h1 h2; have h2 : q = _ := h2; have := hlt q (by (try simp only [] at h1); omega); omega) | (intro q h1 h2; (try simp only [] at h1 h2); rcases h2 with h2 | h2 | h2 <;> first | omega | (subst h2; omega)) | (intro q h1 h2; (try simp only [] at h1 h2); rcases h2 with h2 | h2 | h2 | h2 <;> first | omega | (subst h2; omega)))) (by omega)) Try.call28 rfl rfl) ?_
      rintro _ w8 ⟨rfl, hBd, hxd⟩
      have hxd' := hxd.size
      refine X.opw X.wN rfl (X.assign (v := .int .i64 _) rfl) ?_
      refine X.opsEnd ?_
      refine X.ret1 (v := (.int .i64 _)) Try.func9 Try.results9 rfl ?_
      have hfat := fat_at hff
      have hx : Ext (fun q => col q = 1 ∨ col q = 5 ∨ col q = 7 + 3 * k.toNat) w w8 := (Ext.andThen (Ext.andThen (Ext.andThen (Ext.andThen (Ext.andThen (Ext.andThen (Ext.andThen (Ext.andThen (Ext.refl (fun q => col q = 1 ∨ col q = 5 ∨ col q = 7 + 3 * k.toNat) _) hk1 (by intro q h1 h2; first | exact (h2 : False).elim | ((try simp only [] at h2); omega) | (have h2 : q = _ := h2; subst h2; omega) | (rcases h2 with h2 | h2 | h2 <;> first | omega | (subst h2; omega)))) hk2 (by intro q h1 h2; first | exact (h2 : False).elim | ((try simp only [] at h2); omega) | (have h2 : q = _ := h2; subst h2; omega) | (rcases h2 with h2 | h2 | h2 <;> first | omega | (subst h2; omega)))) hk3 (by intro q h1 h2; first | exact (h2 : False).elim | ((try simp only [] at h2); omega) | (have h2 : q = _ := h2; subst h2; omega) | (rcases h2 with h2 | h2 | h2 <;> first | omega | (subst h2; omega)))) hx4 (by intro q h1 h2; first | exact (h2 : False).elim | ((try simp only [] at h2); omega) | (have h2 : q = _ := h2; subst h2; omega) | (rcases h2 with h2 | h2 | h2 <;> first | omega | (subst h2; omega)))) hk5 (by intro q h1 h2; first | exact (h2 : False).elim | ((try simp only [] at h2); omega) | (have h2 : q = _ := h2; subst h2; omega) | (rcases h2 with h2 | h2 | h2 <;> first | omega | (subst h2; omega)))) hx6 (by intro q h1 h2; first | exact (h2 : False).elim | ((try simp only [] at h2); omega) | (have h2 : q = _ := h2; subst h2; omega) | (rcases h2 with h2 | h2 | h2 <;> first | omega | (subst h2; omega)))) hx7 (by intro q h1 h2; first | exact (h2 : False).elim | ((try simp only [] at h2); omega) | (have h2 : q = _ := h2; subst h2; omega) | (rcases h2 with h2 | h2 | h2 <;> first | omega | (subst h2; omega)))) hxd (by intro q h1 h2; first | exact (h2 : False).elim | ((try simp only [] at h2); omega) | (have h2 : q = _ := h2; subst h2; omega) | (rcases h2 with h2 | h2 | h2 <;> first | omega | (subst h2; omega))))
      have hxs := hx.size
      obtain ⟨col', hcol⟩ : ∃ col', col' = rec' col w.heap.size w8.heap.size (9 + 3 * k.toNat) := ⟨_, rfl⟩
      have hold : ∀ q, q < w.heap.size → col' q = col q := fun q hq => by rw [hcol]; exact rec_old hq
      have hnew : ∀ q, w.heap.size ≤ q → q < w8.heap.size → col' q = 9 + 3 * k.toNat := fun q h1 h2 => by rw [hcol]; exact rec_new h1 h2
      have hltc : ∀ q, col' q ≠ 0 → q < w8.heap.size := fun q hq => by rw [hcol] at hq; exact rec_lt hlt hxs hq
      have P := h.part (col' := col') (fun v => v = 1 ∨ v = 5 ∨ v = 7 + 3 * k.toNat) hx hold (fun q hq ht => ht)
      have hst : Stp col w col' w8 := ⟨hold, hx.mono (fun q _ t => by (try simp only [] at t); omega)⟩
      have e : s0.sync nm = (0, ({ s0 with fs := s0.fs.set k.toNat (f.1, f.1), ls := s0.ls.filter fun p => decide (p.1.1 ≠ k) } : DS).did) := by simp only [DS.sync, if_neg hD, hfa, hfat]
      rw [e]
      refine ⟨rfl, col', ⟨bf, bd, bx, bl, A, n, c, pt, ?_, P.F (by omega), P.G (by omega), P.X (by omega), (hLd.ext hxd (by first | (intros; (try simp only [] at *); omega) | (intro hh; (try simp only [] at hh); omega) | (intro q h1 h2; (try simp only [] at h1 h2); have := hlt q (by omega); omega) | (intro hh; have hh : _ = _ := hh; subst hh; omega) | (intro q h1 h2; have h2 : q = _ := h2; subst h2; (try simp only [] at h1); omega) | (intro q h1 h2; (try simp only [] at h1 h2); omega) | (intro q h1 h2; have h2 : q = _ := h2; have := hlt q (by (try simp only [] at h1); omega); omega) | (intro q h1 h2; (try simp only [] at h1 h2); rcases h2 with h2 | h2 | h2 <;> first | omega | (subst h2; omega)) | (intro q h1 h2; (try simp only [] at h1 h2); rcases h2 with h2 | h2 | h2 | h2 <;> first | omega | (subst h2; omega)))), P.M (by omega), P.cb, P.cf, P.cd, P.cx, P.cl, hltc, ?_, ?_⟩, hst⟩
      · have := hBd
        simp only [DS.did, List.length_set]
        exact this
      · simp only [DS.did, List.length_set]; exact P.pl
      · intro j q g h1 h2
        by_cases hj : j = k.toNat
        · subst hj
          rw [hpf] at h1
          have h2' : (s0.fs.set k.toNat (f.1, f.1))[k.toNat]? = some g := h2
          rw [List.getElem?_set_self (by omega)] at h2'
          cases h1; cases h2'
          exact ⟨(hold _ hpl2).trans hpc, _, _, _, _, _, _, ((hB6.ext hx7 (by first | (intros; (try simp only [] at *); omega) | (intro hh; (try simp only [] at hh); omega) | (intro q h1 h2; (try simp only [] at h1 h2); have := hlt q (by omega); omega) | (intro hh; have hh : _ = _ := hh; subst hh; omega) | (intro q h1 h2; have h2 : q = _ := h2; subst h2; (try simp only [] at h1); omega) | (intro q h1 h2; (try simp only [] at h1 h2); omega) | (intro q h1 h2; have h2 : q = _ := h2; have := hlt q (by (try simp only [] at h1); omega); omega) | (intro q h1 h2; (try simp only [] at h1 h2); rcases h2 with h2 | h2 | h2 <;> first | omega | (subst h2; omega)) | (intro q h1 h2; (try simp only [] at h1 h2); rcases h2 with h2 | h2 | h2 | h2 <;> first | omega | (subst h2; omega)))).ext hxd (by first | (intros; (try simp only [] at *); omega) | (intro hh; (try simp only [] at hh); omega) | (intro q h1 h2; (try simp only [] at h1 h2); have := hlt q (by omega); omega) | (intro hh; have hh : _ = _ := hh; subst hh; omega) | (intro q h1 h2; have h2 : q = _ := h2; subst h2; (try simp only [] at h1); omega) | (intro q h1 h2; (try simp only [] at h1 h2); omega) | (intro q h1 h2; have h2 : q = _ := h2; have := hlt q (by (try simp only [] at h1); omega); omega) | (intro q h1 h2; (try simp only [] at h1 h2); rcases h2 with h2 | h2 | h2 <;> first | omega | (subst h2; omega)) | (intro q h1 h2; (try simp only [] at h1 h2); rcases h2 with h2 | h2 | h2 | h2 <;> first | omega | (subst h2; omega)))), (((((((((hM1.keep hk1).keep hk2).keep hk3).ext hx4 (by intros; omega) (by first | (intros; (try simp only [] at *); omega) | (intro hh; (try simp only [] at hh); omega) | (intro q h1 h2; (try simp only [] at h1 h2); have := hlt q (by omega); omega) | (intro hh; have hh : _ = _ := hh; subst hh; omega) | (intro q h1 h2; have h2 : q = _ := h2; subst h2; (try simp only [] at h1); omega) | (intro q h1 h2; (try simp only [] at h1 h2); omega) | (intro q h1 h2; have h2 : q = _ := h2; have := hlt q (by (try simp only [] at h1); omega); omega) | (intro q h1 h2; (try simp only [] at h1 h2); rcases h2 with h2 | h2 | h2 <;> first | omega | (subst h2; omega)) | (intro q h1 h2; (try simp only [] at h1 h2); rcases h2 with h2 | h2 | h2 | h2 <;> first | omega | (subst h2; omega)))).keep hk5).ext hx6 (by intros; omega) (by first | (intros; (try simp only [] at *); omega) | (intro hh; (try simp only [] at hh); omega) | (intro q h1 h2; (try simp only [] at h1 h2); have := hlt q (by omega); omega) | (intro hh; have hh : _ = _ := hh; subst hh; omega) | (intro q h1 h2; have h2 : q = _ := h2; subst h2; (try simp only [] at h1); omega) | (intro q h1 h2; (try simp only [] at h1 h2); omega) | (intro q h1 h2; have h2 : q = _ := h2; have := hlt q (by (try simp only [] at h1); omega); omega) | (intro q h1 h2; (try simp only [] at h1 h2); rcases h2 with h2 | h2 | h2 <;> first | omega | (subst h2; omega)) | (intro q h1 h2; (try simp only [] at h1 h2); rcases h2 with h2 | h2 | h2 | h2 <;> first | omega | (subst h2; omega)))).ext hx7 (by intros; omega) (by first | (intros; (try simp only [] at *); omega) | (intro hh; (try simp only [] at hh); omega) | (intro q h1 h2; (try simp only [] at h1 h2); have := hlt q (by omega); omega) | (intro hh; have hh : _ = _ := hh; subst hh; omega) | (intro q h1 h2; have h2 : q = _ := h2; subst h2; (try simp only [] at h1); omega) | (intro q h1 h2; (try simp only [] at h1 h2); omega) | (intro q h1 h2; have h2 : q = _ := h2; have := hlt q (by (try simp only [] at h1); omega); omega) | (intro q h1 h2; (try simp only [] at h1 h2); rcases h2 with h2 | h2 | h2 <;> first | omega | (subst h2; omega)) | (intro q h1 h2; (try simp only [] at h1 h2); rcases h2 with h2 | h2 | h2 | h2 <;> first | omega | (subst h2; omega)))).ext hxd (by intros; omega) (by first | (intros; (try simp only [] at *); omega) | (intro hh; (try simp only [] at hh); omega) | (intro q h1 h2; (try simp only [] at h1 h2); have := hlt q (by omega); omega) | (intro hh; have hh : _ = _ := hh; subst hh; omega) | (intro q h1 h2; have h2 : q = _ := h2; subst h2; (try simp only [] at h1); omega) | (intro q h1 h2; (try simp only [] at h1 h2); omega) | (intro q h1 h2; have h2 : q = _ := h2; have := hlt q (by (try simp only [] at h1); omega); omega) | (intro q h1 h2; (try simp only [] at h1 h2); rcases h2 with h2 | h2 | h2 <;> first | omega | (subst h2; omega)) | (intro q h1 h2; (try simp only [] at h1 h2); rcases h2 with h2 | h2 | h2 | h2 <;> first | omega | (subst h2; omega)))).mono (fun q hq hS => by rw [hold q (hlt q (by (try simp only [] at hS); omega))]; exact hS)), ((((hMc.ext hx6 (by intros; omega) (by first | (intros; (try simp only [] at *); omega) | (intro hh; (try simp only [] at hh); omega) | (intro q h1 h2; (try simp only [] at h1 h2); have := hlt q (by omega); omega) | (intro hh; have hh : _ = _ := hh; subst hh; omega) | (intro q h1 h2; have h2 : q = _ := h2; subst h2; (try simp only [] at h1); omega) | (intro q h1 h2; (try simp only [] at h1 h2); omega) | (intro q h1 h2; have h2 : q = _ := h2; have := hlt q (by (try simp only [] at h1); omega); omega) | (intro q h1 h2; (try simp only [] at h1 h2); rcases h2 with h2 | h2 | h2 <;> first | omega | (subst h2; omega)) | (intro q h1 h2; (try simp only [] at h1 h2); rcases h2 with h2 | h2 | h2 | h2 <;> first | omega | (subst h2; omega)))).ext hx7 (by intros; omega) (by first | (intros; (try simp only [] at *); omega) | (intro hh; (try simp only [] at hh); omega) | (intro q h1 h2; (try simp only [] at h1 h2); have := hlt q (by omega); omega) | (intro hh; have hh : _ = _ := hh; subst hh; omega) | (intro q h1 h2; have h2 : q = _ := h2; subst h2; (try simp only [] at h1); omega) | (intro q h1 h2; (try simp only [] at h1 h2); omega) | (intro q h1 h2; have h2 : q = _ := h2; have := hlt q (by (try simp only [] at h1); omega); omega) | (intro q h1 h2; (try simp only [] at h1 h2); rcases h2 with h2 | h2 | h2 <;> first | omega | (subst h2; omega)) | (intro q h1 h2; (try simp only [] at h1 h2); rcases h2 with h2 | h2 | h2 | h2 <;> first | omega | (subst h2; omega)))).ext hxd (by intros; omega) (by first | (intros; (try simp only [] at *); omega) | (intro hh; (try simp only [] at hh); omega) | (intro q h1 h2; (try simp only [] at h1 h2); have := hlt q (by omega); omega) | (intro hh; have hh : _ = _ := hh; subst hh; omega) | (intro q h1 h2; have h2 : q = _ := h2; subst h2; (try simp only [] at h1); omega) | (intro q h1 h2; (try simp only [] at h1 h2); omega) | (intro q h1 h2; have h2 : q = _ := h2; have := hlt q (by (try simp only [] at h1); omega); omega) | (intro q h1 h2; (try simp only [] at h1 h2); rcases h2 with h2 | h2 | h2 <;> first | omega | (subst h2; omega)) | (intro q h1 h2; (try simp only [] at h1 h2); rcases h2 with h2 | h2 | h2 | h2 <;> first | omega | (subst h2; omega)))).mono (fun q hq hS => hnew q (by (try simp only [] at hS); omega) (by (try simp only [] at hS); omega)))⟩
        · have h2' : (s0.fs.set k.toNat (f.1, f.1))[j]? = some g := h2
          rw [List.getElem?_set_ne (fun e => hj e.symm)] at h2'
          exact P.fl j q g h1 h2' (fun v a1 a2 => by omega)
end Go.Proofs.Ytcdebnppbnmmgaa

namespace Go.Proofs.Ytcdebnppbnmmgaa
open Go Go.Proofs.Ytcdebnppbnmmgaa.X
set_option linter.unusedVariables false
set_option linter.unusedSimpArgs false
def DS.read (nm : ByteArray) (a n : Int) (s : DS) : List UInt8 × Int :=
  match asc nm s.dir with
  | none => ([], 52)
  | some k => if a < 0 ∨ n < 0 ∨ ((fat s.fs k).1.length : Int) < a ∨ ((fat s.fs k).1.length : Int) - a < n then ([], 5) else (((fat s.fs k).1.drop a.toNat).take n.toNat, 0)
def DS.sizeOf (nm : ByteArray) (s : DS) : Int × Int := match asc nm s.dir with
  | none => (0, 52)
  | some k => ((flen s.fs k : Int), 0)
def DS.fuse (n : Int) (s : DS) : Int × DS := if n < 0 ∨ 1048576 < n then (5, s) else (0, { s with fu := true, lf := n })
-- f13 "(*pedigree/disk.Disk).Read" params [26, 9, 3, 3] results [22, 27] -> [(ResultVar.tmp 8), (ResultVar.tm
set_option maxHeartbeats 4000000 in
set_option maxRecDepth 100000 in
theorem Read_c {col : Nat → Nat} {b bf bd bx bl : Nat} {A : Option Addr} {nn c : Nat} {pt : List Nat} {s0 : DS} (nm : ByteArray) (a n : Int) (w : World) (h : DkB col w b bf bd bx bl A nn c pt s0) (hok : s0.Ok) (han : -9223372036854775808 ≤ a ∧ a ≤ 9223372036854775807 ∧ -9223372036854775808 ≤ n ∧ n ≤ 9223372036854775807) : Ret Try.prog 13 #[ptrV b, .string nm, .int .i64 a, .int .i64 n] w fun r w' => ∃ v, r = .tuple #[v, .int .i64 (s0.read nm a n).2] ∧ Mine KB 5 (fun q => w.heap.size ≤ q ∧ q < w'.heap.size) 0 0 w' v (s0.read nm a n).1 ∧ Keep w w' := by
  have hbl := h.B.lt
  have hfl := h.F.lt
  have hdl := h.G.lt
  have hxl := h.X.lt
  have hll := h.L.lt
  have hcb := h.cb
  have hcf := h.cf
  have hcd := h.cd
  have hcx := h.cx
  have hcl := h.cl
  obtain ⟨z1, z2, z3, z4, z5, z6, z7, z8, z9, z10⟩ := h.ne
  have hlt := h.lt
  have hok1 := hok.lf
  have hok2 := hok.few
  refine X.enter Try.func13 rfl Try.ntmps13 rfl ?_
  refine X.seq ?_
  refine X.region ?_
  refine X.opw X.wN rfl (X.assign rfl) ?_
  refine X.opw X.wN rfl (X.assign rfl) ?_
  refine X.opsEnd ?_
  refine X.seq ?_
  refine X.seq ?_
  refine X.region ?_
  refine X.opw X.wN rfl (X.move rfl) ?_
  refine X.opE X.wN rfl (X.callE (is_c _ h.B) Try.call36 rfl rfl) ?_
  rintro _ w1 ⟨rfl, hk1⟩
  have hk1' := hk1.size
  refine X.opw X.wN rfl (X.not_ rfl) ?_
  refine X.opsEnd ?_
  refine X.condF rfl ?_
  refine X.skip ?_
  refine X.seq ?_
  refine X.region ?_
  refine X.opw X.wN rfl (X.move rfl) ?_
  refine X.opw X.wN rfl (X.move (v := .string _) rfl) ?_
  refine X.opE X.wN rfl (X.callE (named_c nm _ (h.B.keep hk1) (h.G.keep hk1) (h.F.keep hk1)) Try.call29 rfl rfl) ?_
  rintro _ w2 ⟨rfl, hk2⟩
  have hk2' := hk2.size
  refine X.opw X.wN rfl (X.move rfl) ?_
  refine X.opw X.wN rfl (X.extr rfl rfl) ?_
  refine X.opw X.wN rfl (X.extr rfl rfl) ?_
  refine X.opw X.wN rfl (X.extr rfl rfl) ?_
  refine X.opw X.wN rfl (X.assign (v := .int .i64 _) rfl) ?_
  refine X.opw X.wN rfl (X.assign rfl) ?_
  refine X.opw X.wN rfl (X.assign (v := .bool _) rfl) ?_
  refine X.opsEnd ?_
  refine X.seq ?_
  refine X.seq ?_
  refine X.region ?_
  refine X.opw X.wN rfl (X.move (v := .bool _) rfl) ?_
  refine X.opw X.wN rfl (X.not_ rfl) ?_
  refine X.opsEnd ?_
  refine X.condB rfl (fun hc => ?_) (fun hc => ?_)
  · have hno : asc nm s0.dir = none := by
      cases ha : asc nm s0.dir with
      | none => rfl
      | some k => rw [ha] at hc; simp at hc
    refine X.seq ?_
    refine X.region ?_
    refine X.opw X.wN rfl (X.assign rfl) ?_
    refine X.opw X.wN rfl (X.assign rfl) ?_
    refine X.opsEnd ?_
    refine X.ret2 (v2 := (.int .i64 _)) Try.func13 Try.results13 rfl rfl ?_
    have e : s0.read nm a n = ([], 52) := by simp only [DS.read, hno]
    rw [e]
    exact ⟨_, rfl, Mine.nil _ _ _ _ _ _, (hk1.trans hk2)⟩
  · obtain ⟨k, hfa⟩ : ∃ k, asc nm s0.dir = some k := by
      cases ha : asc nm s0.dir with
      | none => rw [ha] at hc; simp at hc
      | some k => exact ⟨k, rfl⟩
    obtain ⟨hka, hkb, _⟩ := hok.dir _ (asc_some hfa)
    have hka : 0 ≤ k := hka
    have hkb : k < s0.fs.length := hkb
    obtain ⟨pf, f, A1, n1, c1, A2, n2, c2, hfb, hpf, hff, hn1, hn2, hfl1, hpc, hBf, hM1, hM2⟩ := h.at_ hka hkb
    have hlf := hok.len hff
    have hpl2 := hBf.lt
    rw [hfa, Option.getD_some, hfb, Option.getD_some]
    have hfat := fat_at hff
    have hcc1 := (hM1.rd KB_flat).1
    refine X.skip ?_
    refine X.seq ?_
    refine X.seq ?_
    refine X.region ?_
    refine X.opw X.wN rfl (X.move (v := .int .i64 _) rfl) ?_
    refine X.opw X.wN rfl (X.move (v := .int .i64 _) rfl) ?_
    refine X.opw X.wN rfl (X.minII rfl rfl) ?_
    refine X.opP X.wN rfl rfl (X.lss rfl rfl) (fun h28 => ?_) (fun h28 => ?_)
    · have h28 : (if n < a then n else a) < 0 := h28
      have h28 : a < 0 ∨ n < 0 := by split at h28 <;> omega
      refine X.opw X.wN rfl (X.move (v := .bool true) rfl) ?_
      refine X.opS rfl rfl rfl rfl rfl ?_
      refine X.opS rfl rfl rfl rfl rfl ?_
      refine X.opS rfl rfl rfl rfl rfl ?_
      refine X.opS rfl rfl rfl rfl rfl ?_
      refine X.opS rfl rfl rfl rfl rfl ?_
      refine X.opS rfl rfl rfl rfl rfl ?_
      refine X.opS rfl rfl rfl rfl rfl ?_
      refine X.opw X.wN rfl (X.pickT (v := .bool true) rfl rfl) ?_
      refine X.opw X.wN rfl (X.move (v := .bool true) rfl) ?_
      refine X.opS rfl rfl rfl rfl rfl ?_
      refine X.opS rfl rfl rfl rfl rfl ?_
      refine X.opS rfl rfl rfl rfl rfl ?_
      refine X.opS rfl rfl rfl rfl rfl ?_
      refine X.opS rfl rfl rfl rfl rfl ?_
      refine X.opS rfl rfl rfl rfl rfl ?_
      refine X.opS rfl rfl rfl rfl rfl ?_
      refine X.opS rfl rfl rfl rfl rfl ?_
      refine X.opS rfl rfl rfl rfl rfl ?_
      refine X.opw X.wN rfl (X.pickT (v := .bool true) rfl rfl) ?_
      refine X.opsEnd ?_
      refine X.condT rfl ?_
      refine X.seq ?_
      refine X.region ?_
      refine X.opw X.wN rfl (X.assign rfl) ?_
      refine X.opw X.wN rfl (X.assign rfl) ?_
      refine X.opsEnd ?_
      refine X.ret2 (v2 := (.int .i64 _)) Try.func13 Try.results13 rfl rfl ?_
      have e : s0.read nm a n = ([], 5) := by
        simp only [DS.read, hfa, hfat]
        rw [if_pos (by omega)]
      rw [e]
      exact ⟨_, rfl, Mine.nil _ _ _ _ _ _, (hk1.trans hk2)⟩
    · have h28 : ¬ (if n < a then n else a) < 0 := h28
      have h28 : 0 ≤ a ∧ 0 ≤ n := by split at h28 <;> omega
      refine X.opw X.wN rfl (X.move (v := .bool false) rfl) ?_
      refine X.opw (X.wG rfl rfl rfl) rfl (X.move (v := .int .i64 _) rfl) ?_
      refine X.opw (X.wG rfl rfl rfl) rfl (X.move rfl) ?_
      refine X.opw (X.wG rfl rfl rfl) rfl (X.nilCk rfl) ?_
      refine X.opw (X.wG rfl rfl rfl) rfl (X.fldB (j := 0) Try.underlying73 rfl rfl Try.sizeOf22 rfl) ?_
      refine X.opw (X.wG rfl rfl rfl) rfl (X.load1B Try.isAgg22 (hBf.keep (hk1.trans hk2)) rfl rfl) ?_
      refine X.opw (X.wG rfl rfl rfl) rfl (X.lenSl Try.underlying22 rfl) ?_
      refine X.opP (X.wG rfl rfl rfl) rfl rfl (X.gtr rfl rfl) (fun h36 => ?_) (fun h36 => ?_)
      · refine X.opw X.wN rfl (X.pickF (v := .bool true) rfl rfl) ?_
        refine X.opw X.wN rfl (X.move (v := .bool true) rfl) ?_
        refine X.opS rfl rfl rfl rfl rfl ?_
        refine X.opS rfl rfl rfl rfl rfl ?_
        refine X.opS rfl rfl rfl rfl rfl ?_
        refine X.opS rfl rfl rfl rfl rfl ?_
        refine X.opS rfl rfl rfl rfl rfl ?_
        refine X.opS rfl rfl rfl rfl rfl ?_
        refine X.opS rfl rfl rfl rfl rfl ?_
        refine X.opS rfl rfl rfl rfl rfl ?_
        refine X.opS rfl rfl rfl rfl rfl ?_
        refine X.opw X.wN rfl (X.pickT (v := .bool true) rfl rfl) ?_
        refine X.opsEnd ?_
        refine X.condT rfl ?_
        refine X.seq ?_
        refine X.region ?_
        refine X.opw X.wN rfl (X.assign rfl) ?_
        refine X.opw X.wN rfl (X.assign rfl) ?_
        refine X.opsEnd ?_
        refine X.ret2 (v2 := (.int .i64 _)) Try.func13 Try.results13 rfl rfl ?_
        have e : s0.read nm a n = ([], 5) := by
          simp only [DS.read, hfa, hfat]
          rw [if_pos (by omega)]
        rw [e]
        exact ⟨_, rfl, Mine.nil _ _ _ _ _ _, (hk1.trans hk2)⟩
      · refine X.opw X.wN rfl (X.pickF (v := .bool false) rfl rfl) ?_
        refine X.opw X.wN rfl (X.move (v := .bool false) rfl) ?_
        refine X.opw (X.wG rfl rfl rfl) rfl (X.move (v := .int .i64 _) rfl) ?_
        refine X.opw (X.wG rfl rfl rfl) rfl (X.move rfl) ?_
        refine X.opw (X.wG rfl rfl rfl) rfl (X.nilCk rfl) ?_
        refine X.opw (X.wG rfl rfl rfl) rfl (X.fldB (j := 0) Try.underlying73 rfl rfl Try.sizeOf22 rfl) ?_
        refine X.opw (X.wG rfl rfl rfl) rfl (X.load1B Try.isAgg22 (hBf.keep (hk1.trans hk2)) rfl rfl) ?_
        refine X.opw (X.wG rfl rfl rfl) rfl (X.lenSl Try.underlying22 rfl) ?_
        refine X.opw (X.wG rfl rfl rfl) rfl (X.move (v := .int .i64 _) rfl) ?_
        refine X.opw (X.wG rfl rfl rfl) rfl (X.sub rfl rfl (X.w_i64 (by omega))) ?_
        refine X.opP (X.wG rfl rfl rfl) rfl rfl (X.gtr rfl rfl) (fun h47 => ?_) (fun h47 => ?_)
        · refine X.opw X.wN rfl (X.pickF (v := .bool true) rfl rfl) ?_
          refine X.opsEnd ?_
          refine X.condT rfl ?_
          refine X.seq ?_
          refine X.region ?_
          refine X.opw X.wN rfl (X.assign rfl) ?_
          refine X.opw X.wN rfl (X.assign rfl) ?_
          refine X.opsEnd ?_
          refine X.ret2 (v2 := (.int .i64 _)) Try.func13 Try.results13 rfl rfl ?_
          have e : s0.read nm a n = ([], 5) := by
            simp only [DS.read, hfa, hfat]
            rw [if_pos (by omega)]
          rw [e]
          exact ⟨_, rfl, Mine.nil _ _ _ _ _ _, (hk1.trans hk2)⟩
        · refine X.opw X.wN rfl (X.pickF (v := .bool false) rfl rfl) ?_
          refine X.opsEnd ?_
          refine X.condF rfl ?_
          refine X.skip ?_
          refine X.seq ?_
          refine X.region ?_
          refine X.opw X.wN rfl (X.move rfl) ?_
          refine X.opw X.wN rfl (X.nilCk rfl) ?_
          refine X.opw X.wN rfl (X.fldB (j := 0) Try.underlying73 rfl rfl Try.sizeOf22 rfl) ?_
          refine X.opw X.wN rfl (X.load1B Try.isAgg22 (hBf.keep (hk1.trans hk2)) rfl rfl) ?_
          refine X.opw X.wN rfl (X.move (v := .int .i64 _) rfl) ?_
          refine X.opw X.wN rfl (X.move (v := .int .i64 _) rfl) ?_
          refine X.opw X.wN rfl (X.move (v := .int .i64 _) rfl) ?_
          refine X.opw X.wN rfl (X.add rfl rfl (X.w_i64 (by omega))) ?_
          refine X.opw X.wN rfl (X.cutLH Try.underlying22 Try.sizeOf5 rfl rfl rfl ⟨by omega, by omega, by omega⟩) ?_
          refine X.opE X.wN rfl (X.callE (CloneB_c _ (((((hM1.rd KB_flat).2.take (a + n).toNat (by omega)).drop a.toNat c1 (by omega) (by omega))).keep (hk1.trans hk2)) (by omega)) Try.call32 rfl rfl) ?_
          rintro _ w3 ⟨A', c', rfl, hcc, hMc, hk3⟩
          have hk3' := hk3.size
          refine X.opw X.wN rfl (X.assign rfl) ?_
          refine X.opw X.wN rfl (X.assign rfl) ?_
          refine X.opsEnd ?_
          refine X.ret2 (v2 := (.int .i64 _)) Try.func13 Try.results13 rfl rfl ?_
          have e : s0.read nm a n = ((f.1.take (a + n).toNat).drop a.toNat, 0) := by
            simp only [DS.read, hfa, hfat]
            rw [if_neg (by omega), List.drop_take, show (a + n).toNat - a.toNat = n.toNat by omega]
          rw [e]
          exact ⟨_, rfl, hMc.mono (fun q hq h => ⟨by omega, h.2⟩), ((hk1.trans hk2).trans hk3)⟩
section
variable {col : Nat → Nat} {w : World} {b : Nat} {s : DS}
theorem sizeR_c (h : DkR col w b s) (hok : s.Ok) (nm : ByteArray) : Ret Try.prog 12 #[ptrV b, .string nm] w fun r w' => r = .tuple #[.int .i64 (s.sizeOf nm).1, .int .i64 (s.sizeOf nm).2] ∧ Keep w w' := by
  obtain ⟨bf, bd, bx, bl, A, n, c, pt, h⟩ := h
  have hfile : ∀ k, asc nm s.dir = some k → ∃ pf f A1 n1 c1 A2 n2 c2, asc k (fmapF 0 pt) = some (ptrV pf) ∧ pt[k.toNat]? = some pf ∧ s.fs[k.toNat]? = some f ∧ n1 = f.1.length ∧ n2 = f.2.length ∧ flen s.fs k = n1 ∧ col pf = 7 + 3 * k.toNat ∧ Blk w pf (fiL A1 n1 c1 A2 n2 c2) 73 ∧ Row KB 5 (fun q => col q = 8 + 3 * k.toNat) 0 0 w (.slice A1 n1 c1) f.1 ∧ Mine KB 5 (fun q => col q = 9 + 3 * k.toNat) 0 0 w (.slice A2 n2 c2) f.2 := fun k hk => by
    obtain ⟨h1, h2, _⟩ := hok.dir _ (asc_some hk)
    exact h.at_ h1 h2
  refine (Size_c nm w h.B h.G h.F fun k hk => ?_).mono ?_
  · obtain ⟨pf, f, A1, n1, c1, A2, n2, c2, e1, _, _, _, _, _, _, e2, _, _⟩ := hfile k hk
    exact ⟨pf, A1, n1, c1, A2, n2, c2, e1, e2⟩
  · rintro r w' ⟨h1, hk⟩
    refine ⟨?_, hk⟩
    rcases h1 with ⟨h2, rfl⟩ | ⟨k, pf, A1, n1, c1, A2, n2, c2, h2, h3, h4, rfl⟩
    · simp only [DS.sizeOf, h2]
    · obtain ⟨pf', f, A1', n1', c1', A2', n2', c2', e1, _, _, _, _, e6, _, e2, _, _⟩ := hfile k h2
      rw [h3] at e1
      cases e1
      unfold Blk at h4 e2
      rw [h4] at e2
      simp at e2
      simp only [DS.sizeOf, h2, e6, e2.1.2.1]
theorem fuseR_c (h : DkR col w b s) (hok : s.Ok) (i : Int) : Ret Try.prog 19 #[ptrV b, .int .i64 i] w fun r w' => r = .int .i64 (s.fuse i).1 ∧ ∃ col', DkR col' w' b (s.fuse i).2 ∧ Stp col w col' w' := by
  obtain ⟨bf, bd, bx, bl, A, n, c, pt, h⟩ := h
  refine (Fuse_c i w h.B).mono ?_
  rintro r w' (⟨h1, rfl, hk⟩ | ⟨h1, rfl, hB, hx⟩)
  · rw [DS.fuse, if_pos h1]
    exact ⟨rfl, col, (h.keep hk).r, Stp.keep hk⟩
  · rw [DS.fuse, if_neg h1]
    have P := h.part (col' := col) (fun v => v = 1) hx (fun _ _ => rfl) (fun q hq ht => by rw [show q = b from ht]; exact h.cb)
    exact ⟨rfl, col, ⟨bf, bd, bx, bl, A, n, c, pt, hB, P.F (by omega), P.G (by omega), P.X (by omega), P.L (by omega), P.M (by omega), P.cb, P.cf, P.cd, P.cx, P.cl, fun q hq => Nat.lt_of_lt_of_le (h.lt q hq) hx.size, P.pl, fun k q f a1 a2 => P.fl k q f a1 a2 (fun j _ _ => by omega)⟩, ⟨fun _ _ => rfl, hx.mono fun q _ t => by rw [show q = b from t, h.cb]; decide⟩⟩
theorem DkR.blk (h : DkR col w b s) : ∃ bf bd bx bl A n c, Blk w b (dkL s.rm (some bf) (s.fs.length : Int) (some bd) (some bx) A n c (some bl) s.fu s.lf) 60 := let ⟨bf, bd, bx, bl, A, n, c, pt, h⟩ := h; ⟨bf, bd, bx, bl, A, n, c, h.B⟩
theorem downR_c (h : DkR col w b s) : Ret Try.prog 24 #[ptrV b] w fun r w' => r = .bool s.down ∧ Keep w w' := let ⟨_, _, _, _, _, _, _, hB⟩ := h.blk; Down_c w hB
theorem createR_c (h : DkR col w b s) (hok : s.Ok) (nm : ByteArray) (hnm : nm.size ≤ 9223372036854775807) (hsz : s.size ≤ 100000) : Ret Try.prog 7 #[ptrV b, .string nm] w fun r w' => r = .int .i64 (s.create nm).1 ∧ ∃ col', DkR col' w' b (s.create nm).2 ∧ Stp col w col' w' := let ⟨_, _, _, _, _, _, _, _, h⟩ := h; Create_c nm w h hok hnm hsz
theorem deleteR_c (h : DkR col w b s) (hok : s.Ok) (nm : ByteArray) (hnm : nm.size ≤ 9223372036854775807) (hsz : s.size ≤ 100000) : Ret Try.prog 18 #[ptrV b, .string nm] w fun r w' => r = .int .i64 (s.delete nm).1 ∧ ∃ col', DkR col' w' b (s.delete nm).2 ∧ Stp col w col' w' := let ⟨_, _, _, _, _, _, _, _, h⟩ := h; Delete_c nm w h hok hnm hsz
theorem renameR_c (h : DkR col w b s) (hok : s.Ok) (nm to : ByteArray) (hto : to.size ≤ 9223372036854775807) (hsz : s.size ≤ 100000) : Ret Try.prog 17 #[ptrV b, .string nm, .string to] w fun r w' => r = .int .i64 (s.rename nm to).1 ∧ ∃ col', DkR col' w' b (s.rename nm to).2 ∧ Stp col w col' w' := let ⟨_, _, _, _, _, _, _, _, h⟩ := h; Rename_c nm to w h hok hto hsz
theorem syncDirR_c (h : DkR col w b s) (hok : s.Ok) : Ret Try.prog 10 #[ptrV b] w fun r w' => r = .int .i64 s.syncDir.1 ∧ ∃ col', DkR col' w' b s.syncDir.2 ∧ Stp col w col' w' := let ⟨_, _, _, _, _, _, _, _, h⟩ := h; SyncDir_c w h hok
theorem syncR_c (h : DkR col w b s) (hok : s.Ok) (nm : ByteArray) (hnm : nm.size ≤ 9223372036854775807) : Ret Try.prog 9 #[ptrV b, .string nm] w fun r w' => r = .int .i64 (s.sync nm).1 ∧ ∃ col', DkR col' w' b (s.sync nm).2 ∧ Stp col w col' w' := let ⟨_, _, _, _, _, _, _, _, h⟩ := h; Sync_c nm w h hok hnm
theorem readR_c (h : DkR col w b s) (hok : s.Ok) (nm : ByteArray) (a n : Int) (han : -9223372036854775808 ≤ a ∧ a ≤ 9223372036854775807 ∧ -9223372036854775808 ≤ n ∧ n ≤ 9223372036854775807) : Ret Try.prog 13 #[ptrV b, .string nm, .int .i64 a, .int .i64 n] w fun r w' => ∃ v, r = .tuple #[v, .int .i64 (s.read nm a n).2] ∧ Mine KB 5 (fun q => w.heap.size ≤ q ∧ q < w'.heap.size) 0 0 w' v (s.read nm a n).1 ∧ Keep w w' := let ⟨_, _, _, _, _, _, _, _, h⟩ := h; Read_c nm a n w h hok han
end
end Go.Proofs.Ytcdebnppbnmmgaa
