import Derived.Test.YtjfaklbccbofpaaProg
import Derived.Test.YtjfaklbccbofpaaTypes
import Derived.StillTailTactics
import Derived.Deep.RegionHeld3
import Derived.Laws.IdiomStrings
import Derived.Test.YtjfaklbccbofpaaAppend
import Derived.Laws.StructEq
import Derived.Lib.SliceRun
import Derived.Shelf.RegionOpenPlain
import Derived.Test.YtjfaklbccbofpaaCommon
import Derived.Test.YtjfaklbccbofpaaPureVat
import Derived.Test.YtjfaklbccbofpaaSlices
namespace Go.Proofs.Ytjfaklbccbofpaa
open Go.RowKit
set_option linter.unusedVariables false
set_option linter.unusedSimpArgs false

set_option maxHeartbeats 400000 in
theorem impl_Vat_entity_none (g : Nat) (A : Option Addr) (ln c : Nat) (id : Int) (v2 v3 v4 : Value) (n : Int) (w : World) (hb : Blk w g 38 #[.int .i64 id, .slice A ln c, v2, v3, v4]) (hln : ln ≤ 1048576) (hn : ¬ (0 ≤ n ∧ n ≤ (ln : Int) - 1)) :
    Calls Try.prog 34 #[.pointer (some ⟨g, 0, none⟩), .int .i64 n] w fun e w' => e = .returned (.pointer none) ∧ w' = w := by
  have HI : Hid (inR n 0 ((ln : Int) - 1) = false) := by unfold Hid inR; simpa using hn
  obtain ⟨k0, k1⟩ := hb.rules
  have hlt := hb.lt
  clear hn hb
  go_enter Try.func34, Try.ntmps34
  go_wp2_with fail
  refine (impl_in_calls _ _ _ _).mono ?_
  rintro e w1 ⟨rfl, rfl⟩
  rw [HI.out]
  go_wp2
  go_ret
  exact ⟨rfl, rfl⟩
set_option maxHeartbeats 400000 in
theorem impl_Vat_entity_some (g : Nat) (ad : Addr) (ln c : Nat) (id : Int) (v2 v3 v4 : Value) (i : Nat) (w : World) (hb : Blk w g 38 #[.int .i64 id, .slice (some ad) ln c, v2, v3, v4]) (hln : ln ≤ 1048576) (hn : i < ln) :
    Calls Try.prog 34 #[.pointer (some ⟨g, 0, none⟩), .int .i64 (i : Int)] w fun e w' => e = .returned (.pointer (some (ad.add (i * 12)))) ∧ w' = w := by
  have HI : Hid (inR (i : Int) 0 ((ln : Int) - 1) = true) := by unfold Hid inR; simp; omega
  obtain ⟨k0, k1⟩ := hb.rules
  have hlt := hb.lt
  clear hb
  go_enter Try.func34, Try.ntmps34
  go_wp2_with fail
  refine (impl_in_calls _ _ _ _).mono ?_
  rintro e w1 ⟨rfl, rfl⟩
  rw [HI.out]
  go_wp2
  go_ret
  exact ⟨rfl, rfl⟩
end Go.Proofs.Ytjfaklbccbofpaa
