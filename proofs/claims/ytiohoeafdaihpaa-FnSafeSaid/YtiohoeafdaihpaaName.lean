import Derived.Test.YtiohoeafdaihpaaProg
import Derived.Test.YtiohoeafdaihpaaTypes
import Derived.StillTailTactics
import Derived.Deep.RegionHeld3
import Derived.Laws.IdiomStrings
import Derived.Test.YtiohoeafdaihpaaAppend
import Derived.Laws.StructEq
import Derived.Lib.SliceRun
import Derived.Shelf.RegionOpenPlain
import Derived.Test.YtiohoeafdaihpaaPureName
namespace Go.Proofs.Ytiohoeafdaihpaa
open Go.RowKit
set_option linter.unusedVariables false
set_option linter.unusedSimpArgs false

set_option maxHeartbeats 800000 in
theorem spec_IsName_calls (s : ByteArray) (w : World) (hs : s.size ≤ 140737488355328) :
    Calls Try.prog 69 #[.string s] w fun e w' => e = .returned (.bool (nameB s)) ∧ w' = w := by
  go_enter Try.func69, Try.ntmps69
  go_wp2
  go_loop [3] (fun a => ∃ i : Nat, i ≤ s.size ∧ a = .int .i64 i ∧ Hid (∀ j b, j < i → s.data.toList[j]? = some b → lowB b = true)) (fun a => s.size - (intOf a).toNat)
  case atStart => exact ⟨0, by omega, rfl, fun j b h => absurd h (Nat.not_lt_zero _)⟩
  case round =>
    obtain ⟨i, hi, rfl, hno⟩ := hrel
    by_cases hlt : i < s.size
    · have HX := Lib.hid (byte_at s i hlt)
      by_cases g1 : 97 ≤ s[i].toNat
      · by_cases g2 : s[i].toNat ≤ 122
        · have HN := Lib.hid (step_no (p := fun b : UInt8 => lowB b = true) hno.out HX.out (by simp [lowB, g1, g2]))
          have i1 : (97 : Int) ≤ s[i].toNat := by exact_mod_cast g1
          have i2 : (s[i].toNat : Int) ≤ 122 := by exact_mod_cast g2
          go_wp2
          go_round
          case rel => exact ⟨i + 1, by omega, by go_num, HN⟩
          case measure => simp [intOf]; omega
        · have HE : Hid (nameB s = false) := name_bad HX.out (by simp [lowB, g2])
          have i1 : (97 : Int) ≤ s[i].toNat := by exact_mod_cast g1
          have i2 : (122 : Int) < s[i].toNat := by exact_mod_cast (Nat.lt_of_not_le g2)
          go_wp2
          go_ret
          exact ⟨by rw [HE.out]; rfl, rfl⟩
      · have HE : Hid (nameB s = false) := name_bad HX.out (by simp [lowB, g1])
        have i1 : (s[i].toNat : Int) < 97 := by exact_mod_cast (Nat.lt_of_not_le g1)
        go_wp2
        go_ret
        exact ⟨by rw [HE.out]; rfl, rfl⟩
    · have : i = s.size := by omega
      subst this
      have HE : Hid (nameB s = inR s.size 1 6) := name_good hno.out
      go_wp2_with fail
      refine (spec_l1In_calls _ _ _ _).mono ?_
      rintro e w1 ⟨rfl, rfl⟩
      go_wp2
      go_ret
      exact ⟨by rw [HE.out]; rfl, rfl⟩
set_option maxHeartbeats 800000 in
theorem impl_isName_calls (s : ByteArray) (w : World) (hs : s.size ≤ 140737488355328) :
    Calls Try.prog 93 #[.string s] w fun e w' => e = .returned (.bool (nameB s)) ∧ w' = w := by
  rcases Bool.eq_false_or_eq_true (inR s.size 1 6) with hI | hI
  rotate_left
  · have HE : Hid (nameB s = false) := by unfold Hid nameB; rw [hI, Bool.and_false]
    have HI := Lib.hid hI
    clear hI
    go_enter Try.func93, Try.ntmps93
    go_wp2_with fail
    refine (impl_in_calls _ _ _ _).mono ?_
    rintro e w1 ⟨rfl, rfl⟩
    rw [HI.out]
    go_wp2
    go_ret
    exact ⟨by rw [HE.out]; rfl, rfl⟩
  have HI := Lib.hid hI
  clear hI
  go_enter Try.func93, Try.ntmps93
  go_wp2_with fail
  refine (impl_in_calls _ _ _ _).mono ?_
  rintro e w1 ⟨rfl, rfl⟩
  rw [HI.out]
  go_wp2
  go_loop [10] (fun a => ∃ i : Nat, i ≤ s.size ∧ a = .int .i64 i ∧ Hid (∀ j b, j < i → s.data.toList[j]? = some b → lowB b = true)) (fun a => s.size - (intOf a).toNat)
  case atStart => exact ⟨0, by omega, rfl, fun j b h => absurd h (Nat.not_lt_zero _)⟩
  case round =>
    obtain ⟨i, hi, rfl, hno⟩ := hrel
    by_cases hlt : i < s.size
    · have HX := Lib.hid (byte_at s i hlt)
      by_cases g1 : 97 ≤ s[i].toNat
      · by_cases g2 : s[i].toNat ≤ 122
        · have HN := Lib.hid (step_no (p := fun b : UInt8 => lowB b = true) hno.out HX.out (by simp [lowB, g1, g2]))
          have i1 : (97 : Int) ≤ s[i].toNat := by exact_mod_cast g1
          have i2 : (s[i].toNat : Int) ≤ 122 := by exact_mod_cast g2
          go_wp2
          go_round
          case rel => exact ⟨i + 1, by omega, by go_num, HN⟩
          case measure => simp [intOf]; omega
        · have HE : Hid (nameB s = false) := name_bad HX.out (by simp [lowB, g2])
          have i1 : (97 : Int) ≤ s[i].toNat := by exact_mod_cast g1
          have i2 : (122 : Int) < s[i].toNat := by exact_mod_cast (Nat.lt_of_not_le g2)
          go_wp2
          go_ret
          exact ⟨by rw [HE.out]; rfl, rfl⟩
      · have HE : Hid (nameB s = false) := name_bad HX.out (by simp [lowB, g1])
        have i1 : (s[i].toNat : Int) < 97 := by exact_mod_cast (Nat.lt_of_not_le g1)
        go_wp2
        go_ret
        exact ⟨by rw [HE.out]; rfl, rfl⟩
    · have : i = s.size := by omega
      subst this
      have HE : Hid (nameB s = true) := by have h := name_good hno.out; unfold Hid; rw [h, HI.out]
      go_wp2
      go_ret
      exact ⟨by rw [HE.out]; rfl, rfl⟩

end Go.Proofs.Ytiohoeafdaihpaa
