import Derived.Test.YtiohoeafdaihpaaProg
import Derived.Test.YtiohoeafdaihpaaTypes
import Derived.StillTailTactics
import Derived.Deep.RegionHeld3
import Derived.Laws.IdiomStrings
import Derived.Test.YtiohoeafdaihpaaAppend
import Derived.Laws.StructEq
import Derived.Lib.SliceRun
import Derived.Shelf.RegionOpenPlain
import Derived.Test.YtiohoeafdaihpaaInstrI
import Derived.Test.YtiohoeafdaihpaaInstrS
import Derived.Test.YtiohoeafdaihpaaSlices
namespace Go.Proofs.Ytiohoeafdaihpaa
open Go.RowKit
set_option linter.unusedVariables false
set_option linter.unusedSimpArgs false

set_option maxHeartbeats 1600000 in
theorem impl_isMethod1_calls (y : GInstr) (us : List Value) (W : World) (hr : RdLW W (eInstr y) us) (hs : y.Name.size ≤ 140737488355328) :
    Calls Try.prog 95 #[.agg us.toArray] W fun e w' => e = .returned (.bool (!instrB y)) ∧ Below W.heap.size W w' := by
  obtain rfl := rd_eInstr hr
  clear hr
  have HC := Lib.hid (impl_isInstr_calls y (W.alloc (.cells #[.int .i64 y.Op, .int .i64 y.A, .int .i64 y.B, .int .i64 y.C, .int .i64 y.D, .string y.Name] 47)) hs)
  go_enter Try.func95, Try.ntmps95
  go_wp2_with fail
  refine HC.out.mono ?_
  rintro e w1 ⟨rfl, hb⟩
  go_wp2
  go_ret
  exact ⟨rfl, ((Below.refl _ _).alloc (Nat.le_refl _) _).trans (hb.mono (by simp))⟩
set_option maxHeartbeats 3200000 in
theorem impl_isMethod_calls (us : List Value) (x : GMethod) (w : World) (hr : RdLW w (eMethod x) us) (hz : sizL (eMethod x) ≤ 1048576) :
    Calls Try.prog 60 #[.agg us.toArray] w fun e w' => e = .returned (.bool (methodB x)) ∧ Below w.heap.size w w' := by
  have hzq := hz
  rw [siz_eMethod] at hzq
  obtain ⟨v1, rfl, h1⟩ := rd_eMethod hr
  obtain ⟨A, c, rfl, ⟨_, _, hl⟩⟩ := h1.slice
  have hsz : ∀ y, y ∈ x.Code → y.Name.size ≤ 140737488355328 := fun y hy => by
    have h2 := sizL_flat_le eInstr x.Code y hy
    rw [siz_eInstr] at h2; omega
  have hn : x.Name.size ≤ 140737488355328 := by omega
  rcases Bool.eq_false_or_eq_true (nameB x.Name) with q1 | q1
  rotate_left
  · have HE : Hid (methodB x = false) := by unfold Hid methodB; rw [q1]; rfl
    clear hz hzq hsz hr h1
    go_enter Try.func60, Try.ntmps60
    go_wp2_with (go_at_call 93; refine (impl_isName_calls _ _ hn).mono ?_; rintro e w1 ⟨rfl, rfl⟩; rw [q1])
    go_ret
    exact ⟨by rw [HE.out]; rfl, (Below.refl _ _).alloc (Nat.le_refl _) _⟩
  by_cases q2 : ¬ x.Code.length ≤ 12
  · have HE : Hid (methodB x = false) := by unfold Hid methodB; simp [q2]
    clear hz hsz hr h1
    go_enter Try.func60, Try.ntmps60
    go_wp2_with (go_at_call 93; refine (impl_isName_calls _ _ hn).mono ?_; rintro e w1 ⟨rfl, rfl⟩; rw [q1])
    go_ret
    exact ⟨by rw [HE.out]; rfl, (Below.refl _ _).alloc (Nat.le_refl _) _⟩
  replace q2 := Classical.not_not.1 q2
  have HE : Hid (methodB x = !(x.Code.any fun y => !instrB y)) := by
    unfold Hid methodB
    rw [q1, decide_eq_true q2]
    rw [List.all_eq_not_any_not]; rfl
  have HC := Lib.hid (slices_ContainsFunc_Instr (fun y => !instrB y) 95 #[] (enters_of Try.func95 (by kernel_rfl) rfl) _ x.Code (w.alloc (.cells #[.string x.Name, .slice A x.Code.length c] 29)) (h1.alloc _)
    (fun W y us hW hy hr => impl_isMethod1_calls y us W hr (hsz y hy)))
  obtain ⟨an, han⟩ : ∃ an, an = (x.Code.any fun y => !instrB y) := ⟨_, rfl⟩
  rw [← han] at HC HE
  clear hz hzq hsz hr h1 han
  go_enter Try.func60, Try.ntmps60
  go_wp2_with (first | (go_at_call 93; refine (impl_isName_calls _ _ hn).mono ?_; rintro e w1 ⟨rfl, rfl⟩; rw [q1]) | (go_at_call 94; refine HC.out.mono ?_; rintro e w2 ⟨rfl, hb2⟩))
  go_ret
  exact ⟨by rw [HE.out]; rfl, ((Below.refl _ _).alloc (Nat.le_refl _) _).trans (hb2.mono (by simp))⟩
set_option maxHeartbeats 3200000 in
theorem spec_IsMethod_calls (us : List Value) (x : GMethod) (w : World) (hr : RdLW w (eMethod x) us) (hz : sizL (eMethod x) ≤ 1048576) :
    Calls Try.prog 29 #[.agg us.toArray] w fun e w' => e = .returned (.bool (methodB x)) ∧ Below w.heap.size w w' := by
  have hzq := hz
  rw [siz_eMethod] at hzq
  obtain ⟨v1, rfl, h1⟩ := rd_eMethod hr
  obtain ⟨A, c, rfl, ⟨_, _, hl⟩⟩ := h1.slice
  have HSZ := Lib.hid (fun (y : GInstr) (hy : y ∈ x.Code) => by
    have h2 := sizL_flat_le eInstr x.Code y hy
    rw [siz_eInstr] at h2; exact (by omega : y.Name.size ≤ 140737488355328))
  have hn : x.Name.size ≤ 140737488355328 := by omega
  have HR := Lib.hid h1
  have HB0 := Lib.hid ((Below.refl w.heap.size w).alloc (Nat.le_refl _) (.cells #[.string x.Name, .slice A x.Code.length c] 29))
  clear hz hr h1
  go_enter Try.func29, Try.ntmps29
  go_wp2
  go_loopw [3] (fun t wr => ∃ i : Nat, i ≤ x.Code.length ∧ t = .int .i64 i ∧ Hid (Below w.heap.size w wr) ∧ Hid (Blk wr w.heap.size 29 #[.string x.Name, .slice A x.Code.length c]) ∧ Hid (∀ j y, j < i → x.Code[j]? = some y → instrB y = true)) (fun t wr => x.Code.length - (intOf t).toNat)
  case atStart => exact ⟨0, by omega, rfl, HB0, Blk.new _ _ _, no_start⟩
  case round =>
    obtain ⟨i, hi, rfl, HB, HK, hno⟩ := hrel
    obtain ⟨kb, kf⟩ := HK.out.rules
    have hbl := HK.out.lt
    by_cases hlt : i < x.Code.length
    · obtain ⟨y, hy⟩ : ∃ y, x.Code[i]? = some y := ⟨x.Code[i], List.getElem?_eq_getElem hlt⟩
      obtain ⟨ad, rfl, hab, k0, k1, k2, k3, k4, k5⟩ := row_eInstr (HR.out.below HB.out) hy
      have HX := Lib.hid hy
      have hys := HSZ.out y (List.mem_of_getElem? hy)
      clear hy
      rcases Bool.eq_false_or_eq_true (instrB y) with q | q
      · have HN := Lib.hid (step_no (p := fun y : GInstr => instrB y = true) hno.out HX.out q)
        go_wp2_with fail
        refine (spec_IsInstr_calls y _ hys).mono ?_
        rintro e w1 ⟨rfl, hb1⟩
        rw [q]
        have HB1 := Lib.hid (HB.out.trans (hb1.mono HB.out.size))
        have HK1 := Lib.hid (HK.out.below hb1)
        clear hb1
        go_wp2
        go_roundw
        case rel => exact ⟨i + 1, by omega, by go_num, HB1, HK1, HN⟩
        case measure => simp [intOf]; omega
      · have HE : Hid (methodB x = false) := by
          unfold Hid methodB
          rw [List.all_eq_false.2 ⟨y, List.mem_of_getElem? HX.out, by simp [q]⟩]; simp
        go_wp2_with fail
        refine (spec_IsInstr_calls y _ hys).mono ?_
        rintro e w1 ⟨rfl, hb1⟩
        rw [q]
        go_wp2
        go_ret
        exact ⟨by rw [HE.out]; rfl, HB.out.trans (hb1.mono HB.out.size)⟩
    · have : i = x.Code.length := by omega
      subst this
      have HE : Hid (methodB x = (nameB x.Name && decide (x.Code.length ≤ 12))) := by
        unfold Hid methodB
        rw [List.all_eq_true.2 (all_of (p := fun y : GInstr => instrB y = true) hno.out), Bool.and_true]
      rcases Bool.eq_false_or_eq_true (nameB x.Name) with q1 | q1
      · rw [q1] at HE
        go_wp2_with (go_at_call 69; refine (spec_IsName_calls _ _ hn).mono ?_; rintro e w1 ⟨rfl, rfl⟩; rw [q1])
        go_ret
        exact ⟨by rw [HE.out, Bool.true_and, show decide (x.Code.length ≤ 12) = decide ((x.Code.length : Int) ≤ 12) from decide_eq_decide.2 (by omega)]; rfl, HB.out⟩
      · rw [q1] at HE
        go_wp2_with (go_at_call 69; refine (spec_IsName_calls _ _ hn).mono ?_; rintro e w1 ⟨rfl, rfl⟩; rw [q1])
        go_ret
        exact ⟨by rw [HE.out]; rfl, HB.out⟩

end Go.Proofs.Ytiohoeafdaihpaa
