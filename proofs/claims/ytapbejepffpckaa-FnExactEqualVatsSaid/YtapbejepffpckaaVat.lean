import Derived.Test.YtapbejepffpckaaProg
import Derived.Test.YtapbejepffpckaaTypes
import Derived.StillTailTactics
import Derived.Deep.RegionHeld3
import Derived.Laws.IdiomStrings
import Derived.Test.YtapbejepffpckaaAppend
import Derived.Laws.StructEq
import Derived.Lib.SliceRun
import Derived.Shelf.RegionOpenPlain
import Derived.Test.YtapbejepffpckaaCommon
import Derived.Test.YtapbejepffpckaaPureVat
import Derived.Test.YtapbejepffpckaaSlices
namespace Go.Proofs.Ytapbejepffpckaa
open Go.RowKit
set_option linter.unusedVariables false
set_option linter.unusedSimpArgs false

set_option maxHeartbeats 400000 in
theorem spec_LinkTo_calls (us : List Value) (x : GVat) (a : Int) (w : World) (hr : RdLW w (eVat x) us) (hz : sizL (eVat x) ≤ 1048576) (hi : I64 a) :
    Calls Try.prog 24 #[.agg us.toArray, .int .i64 a] w fun e w' => e = .returned (.int .i64 (linkTo x a)) ∧ Below w.heap.size w w' := by
  obtain ⟨v1, v2, v3, v4, rfl, h1, h2, h3, h4⟩ := rd_eVat hr
  obtain ⟨A, c, rfl, ⟨_, _, hl⟩⟩ := h3.slice
  have HR := Lib.hid h3
  clear hr h1 h2 h3 h4
  have HB := Lib.hid ((Below.refl w.heap.size w).alloc (Nat.le_refl _) (.cells #[.int .i64 x.Id, v1, v2, .slice A x.Links.length c, v4] 35))
  go_enter Try.func24, Try.ntmps24
  go_wp2
  go_loop [5] (fun b => ∃ i : Nat, i ≤ x.Links.length ∧ b = .int .i64 i ∧ Hid (∀ j y, j < i → x.Links[j]? = some y → (y.Peer == a) = false)) (fun b => x.Links.length - (intOf b).toNat)
  case atStart => exact ⟨0, by omega, rfl, no_start⟩
  case round =>
    obtain ⟨i, hi, rfl, hno⟩ := hrel
    by_cases hlt : i < x.Links.length
    · obtain ⟨y, hy⟩ : ∃ y, x.Links[i]? = some y := ⟨x.Links[i], List.getElem?_eq_getElem hlt⟩
      obtain ⟨ad, u2, u4, u6, rfl, _, k0, k1, k2, k3, k4, k5, k6, -⟩ := row_eLink (HR.out.below HB.out) hy
      have HX := Lib.hid hy
      clear hy k1 k2 k3 k4 k5 k6
      by_cases he : y.Peer = a
      · have HE := Lib.hid (idx_hit (p := fun l : GLink => l.Peer == a) HX.out (by simpa using he) hno.out)
        go_wp2
        go_ret
        exact ⟨by rw [linkTo, HE.out]; rfl, HB.out⟩
      · have HN := Lib.hid (step_no (p := fun y : GLink => (y.Peer == a) = false) hno.out HX.out (by simpa using he))
        go_wp2
        go_round
        case rel => exact ⟨i + 1, by omega, by go_num, HN⟩
        case measure => simp [intOf]; omega
    · have : i = x.Links.length := by omega
      subst this
      have HE := Lib.hid (idx_miss (all_of (p := fun y : GLink => (y.Peer == a) = false) hno.out))
      go_wp2
      go_ret
      exact ⟨by rw [linkTo, HE.out]; rfl, HB.out⟩
set_option maxHeartbeats 400000 in
theorem impl_LinkTo1_calls (B : Nat) (y : GLink) (us : List Value) (a : Int) (W : World) (hb : Blk W B 3 #[.int .i64 a]) (hr : RdLW W (eLink y) us) :
    Calls Try.prog 63 #[.agg us.toArray, .pointer (some ⟨B, 0, none⟩)] W fun e w' => e = .returned (.bool (y.Peer == a)) ∧ Below W.heap.size W w' := by
  obtain ⟨u2, u4, u6, rfl, -⟩ := rd_eLink hr
  obtain ⟨k0, k1⟩ := hb.rules
  have hlt := hb.lt
  clear hr
  go_enter Try.func63, Try.ntmps63
  go_wp2
  go_ret
  exact ⟨rfl, (Below.refl _ _).alloc (Nat.le_refl _) _⟩
set_option maxHeartbeats 400000 in
theorem impl_LinkTo_calls (us : List Value) (x : GVat) (a : Int) (w : World) (hr : RdLW w (eVat x) us) (hz : sizL (eVat x) ≤ 1048576) (hi : I64 a) :
    Calls Try.prog 25 #[.agg us.toArray, .int .i64 a] w fun e w' => e = .returned (.int .i64 (linkTo x a)) ∧ Below w.heap.size w w' := by
  obtain ⟨v1, v2, v3, v4, rfl, h1, h2, h3, h4⟩ := rd_eVat hr
  obtain ⟨A, c, rfl, ⟨_, _, hl⟩⟩ := h3.slice
  have HR := Lib.hid h3
  clear hr h1 h2 h3 h4
  have HC := Lib.hid (slices_IndexFunc_Link (fun y : GLink => y.Peer == a) 63 #[.pointer (some ⟨w.heap.size + 1, 0, none⟩)] (enters_of Try.func63 (by kernel_rfl) rfl) _ x.Links ((w.alloc (.cells #[.int .i64 x.Id, v1, v2, .slice A x.Links.length c, v4] 35)).alloc (.cells #[.int .i64 a] 3)) ((HR.out.alloc _).alloc _)
    (fun W y us hW hy hus => impl_LinkTo1_calls (w.heap.size + 1) y us a W ((Blk.made (by simp)).below hW) hus))
  go_enter Try.func25, Try.ntmps25
  go_wp2_with (go_at_call 62; refine HC.out.mono ?_; rintro e w' ⟨rfl, hb'⟩)
  go_ret
  exact ⟨rfl, (((Below.refl _ _).alloc (Nat.le_refl _) _).alloc (by simp) _).trans (hb'.mono (by simp only [size_alloc]; omega))⟩
set_option maxHeartbeats 1600000 in
theorem spec_ProxyFor_calls (us : List Value) (x : GVat) (a b : Int) (w : World) (hr : RdLW w (eVat x) us) (hz : sizL (eVat x) ≤ 1048576) (hi : I64 a) (hj : I64 b) :
    Calls Try.prog 16 #[.agg us.toArray, .int .i64 a, .int .i64 b] w fun e w' => e = .returned (.int .i64 (proxyFor x a b)) ∧ Below w.heap.size w w' := by
  obtain ⟨v1, v2, v3, v4, rfl, h1, h2, h3, h4⟩ := rd_eVat hr
  obtain ⟨A, c, rfl, ⟨_, _, hl⟩⟩ := h1.slice
  have HR := Lib.hid h1
  clear hr h1 h2 h3 h4
  have HB0 := Lib.hid ((Below.refl w.heap.size w).alloc (Nat.le_refl _) (.cells #[.int .i64 x.Id, .slice A x.Entities.length c, v2, v3, v4] 35))
  go_enter Try.func16, Try.ntmps16
  go_wp2
  go_loopw [7] (fun t wr => ∃ i : Nat, i ≤ x.Entities.length ∧ t = .int .i64 i ∧ Hid (Below w.heap.size w wr) ∧ Hid (Blk wr w.heap.size 35 #[.int .i64 x.Id, .slice A x.Entities.length c, v2, v3, v4]) ∧ Hid (∀ j y, j < i → x.Entities[j]? = some y → (y.Kind == 3 && (y.Peer == a && y.Pos == b)) = false)) (fun t wr => x.Entities.length - (intOf t).toNat)
  case atStart => exact ⟨0, by omega, rfl, HB0, Blk.new _ _ _, no_start⟩
  case round =>
    obtain ⟨i, hi, rfl, HB, HK, hno⟩ := hrel
    obtain ⟨kb, kf⟩ := HK.out.rules
    have hbl := HK.out.lt
    by_cases hlt : i < x.Entities.length
    · obtain ⟨y, hy⟩ : ∃ y, x.Entities[i]? = some y := ⟨x.Entities[i], List.getElem?_eq_getElem hlt⟩
      obtain ⟨ad, u2, u6, u7, rfl, hab, k0, k1, k2, k3, k4, k5, k6, k7, k8, k9, k10, k11, q2, q6, q7⟩ := row_eEntity (HR.out.below HB.out) hy
      have hab' : (ad.add (i * 12)).block < wr.heap.size := by rw [block_of_add]; exact hab
      obtain ⟨A2, c2, rfl, -⟩ := q2.slice
      obtain ⟨A6, c6, rfl, -⟩ := q6.slice
      obtain ⟨A7, c7, rfl, -⟩ := q7.slice
      obtain ⟨f0, f1, f2, f3, f4, f5, f6, f7, f8, f9, f10⟩ := y
      dsimp only at k0 k1 k2 k3 k4 k5 k6 k7 k8 k9 k10 k11
      have HX := Lib.hid hy
      clear hy q2 q6 q7
      by_cases e1 : ¬ f0 = 3
      · have HN := Lib.hid (step_no (p := fun y : GEntity => (y.Kind == 3 && (y.Peer == a && y.Pos == b)) = false) hno.out HX.out (by simp [e1]))
        go_wp2
        go_roundw
        case rel => exact ⟨i + 1, by omega, by go_num, HB.out.alloc HB.out.size _, HK.out.alloc _, HN⟩
        case measure => simp [intOf]; omega
      replace e1 := Classical.not_not.1 e1
      subst e1
      by_cases e2 : ¬ f7 = a
      · have HN := Lib.hid (step_no (p := fun y : GEntity => (y.Kind == 3 && (y.Peer == a && y.Pos == b)) = false) hno.out HX.out (by simp [e2]))
        go_wp2
        go_roundw
        case rel => exact ⟨i + 1, by omega, by go_num, HB.out.alloc HB.out.size _, HK.out.alloc _, HN⟩
        case measure => simp [intOf]; omega
      replace e2 := Classical.not_not.1 e2
      subst e2
      by_cases e3 : ¬ f8 = b
      · have HN := Lib.hid (step_no (p := fun y : GEntity => (y.Kind == 3 && (y.Peer == f7 && y.Pos == b)) = false) hno.out HX.out (by simp [e3]))
        go_wp2
        go_roundw
        case rel => exact ⟨i + 1, by omega, by go_num, HB.out.alloc HB.out.size _, HK.out.alloc _, HN⟩
        case measure => simp [intOf]; omega
      replace e3 := Classical.not_not.1 e3
      subst e3
      have HE := Lib.hid (idx_hit (p := fun e : GEntity => e.Kind == 3 && (e.Peer == f7 && e.Pos == f8)) HX.out (by simp) hno.out)
      go_wp2
      go_ret
      exact ⟨by rw [proxyFor, HE.out]; rfl, HB.out.alloc HB.out.size _⟩
    · have : i = x.Entities.length := by omega
      subst this
      have HE := Lib.hid (idx_miss (all_of (p := fun y : GEntity => (y.Kind == 3 && (y.Peer == a && y.Pos == b)) = false) hno.out))
      go_wp2
      go_ret
      exact ⟨by rw [proxyFor, HE.out]; rfl, HB.out⟩
set_option maxHeartbeats 1600000 in
theorem impl_ProxyFor_calls (us : List Value) (x : GVat) (a b : Int) (w : World) (hr : RdLW w (eVat x) us) (hz : sizL (eVat x) ≤ 1048576) (hi : I64 a) (hj : I64 b) :
    Calls Try.prog 18 #[.agg us.toArray, .int .i64 a, .int .i64 b] w fun e w' => e = .returned (.int .i64 (proxyFor x a b)) ∧ Below w.heap.size w w' := by
  obtain ⟨v1, v2, v3, v4, rfl, h1, h2, h3, h4⟩ := rd_eVat hr
  obtain ⟨A, c, rfl, ⟨_, _, hl⟩⟩ := h1.slice
  have HR := Lib.hid h1
  clear hr h1 h2 h3 h4
  have HB0 := Lib.hid ((Below.refl w.heap.size w).alloc (Nat.le_refl _) (.cells #[.int .i64 x.Id, .slice A x.Entities.length c, v2, v3, v4] 35))
  go_enter Try.func18, Try.ntmps18
  go_wp2
  go_loopw [12] (fun t wr => ∃ i : Nat, i ≤ x.Entities.length ∧ t = .int .i64 i ∧ Hid (Below w.heap.size w wr) ∧ Hid (Blk wr w.heap.size 35 #[.int .i64 x.Id, .slice A x.Entities.length c, v2, v3, v4]) ∧ Hid (∀ j y, j < i → x.Entities[j]? = some y → (y.Kind == 3 && (y.Peer == a && y.Pos == b)) = false)) (fun t wr => x.Entities.length - (intOf t).toNat)
  case atStart => exact ⟨0, by omega, rfl, HB0, Blk.new _ _ _, no_start⟩
  case round =>
    obtain ⟨i, hi, rfl, HB, HK, hno⟩ := hrel
    obtain ⟨kb, kf⟩ := HK.out.rules
    have hbl := HK.out.lt
    by_cases hlt : i < x.Entities.length
    · obtain ⟨y, hy⟩ : ∃ y, x.Entities[i]? = some y := ⟨x.Entities[i], List.getElem?_eq_getElem hlt⟩
      obtain ⟨ad, u2, u6, u7, rfl, hab, k0, k1, k2, k3, k4, k5, k6, k7, k8, k9, k10, k11, q2, q6, q7⟩ := row_eEntity (HR.out.below HB.out) hy
      have hab' : (ad.add (i * 12)).block < wr.heap.size := by rw [block_of_add]; exact hab
      obtain ⟨A2, c2, rfl, -⟩ := q2.slice
      obtain ⟨A6, c6, rfl, -⟩ := q6.slice
      obtain ⟨A7, c7, rfl, -⟩ := q7.slice
      obtain ⟨f0, f1, f2, f3, f4, f5, f6, f7, f8, f9, f10⟩ := y
      dsimp only at k0 k1 k2 k3 k4 k5 k6 k7 k8 k9 k10 k11
      have HX := Lib.hid hy
      clear hy q2 q6 q7
      by_cases e1 : ¬ f0 = 3
      · have HN := Lib.hid (step_no (p := fun y : GEntity => (y.Kind == 3 && (y.Peer == a && y.Pos == b)) = false) hno.out HX.out (by simp [e1]))
        go_wp2
        go_roundw
        case rel => exact ⟨i + 1, by omega, by go_num, HB.out.alloc HB.out.size _, HK.out.alloc _, HN⟩
        case measure => simp [intOf]; omega
      replace e1 := Classical.not_not.1 e1
      subst e1
      by_cases e2 : ¬ f7 = a
      · have HN := Lib.hid (step_no (p := fun y : GEntity => (y.Kind == 3 && (y.Peer == a && y.Pos == b)) = false) hno.out HX.out (by simp [e2]))
        go_wp2
        go_roundw
        case rel => exact ⟨i + 1, by omega, by go_num, HB.out.alloc HB.out.size _, HK.out.alloc _, HN⟩
        case measure => simp [intOf]; omega
      replace e2 := Classical.not_not.1 e2
      subst e2
      by_cases e3 : ¬ f8 = b
      · have HN := Lib.hid (step_no (p := fun y : GEntity => (y.Kind == 3 && (y.Peer == f7 && y.Pos == b)) = false) hno.out HX.out (by simp [e3]))
        go_wp2
        go_roundw
        case rel => exact ⟨i + 1, by omega, by go_num, HB.out.alloc HB.out.size _, HK.out.alloc _, HN⟩
        case measure => simp [intOf]; omega
      replace e3 := Classical.not_not.1 e3
      subst e3
      have HE := Lib.hid (idx_hit (p := fun e : GEntity => e.Kind == 3 && (e.Peer == f7 && e.Pos == f8)) HX.out (by simp) hno.out)
      go_wp2
      go_ret
      exact ⟨by rw [proxyFor, HE.out]; rfl, HB.out.alloc HB.out.size _⟩
    · have : i = x.Entities.length := by omega
      subst this
      have HE := Lib.hid (idx_miss (all_of (p := fun y : GEntity => (y.Kind == 3 && (y.Peer == a && y.Pos == b)) = false) hno.out))
      go_wp2
      go_ret
      exact ⟨by rw [proxyFor, HE.out]; rfl, HB.out⟩
set_option maxHeartbeats 1600000 in
theorem spec_CountObjects_calls (us : List Value) (x : GVat) (w : World) (hr : RdLW w (eVat x) us) (hz : sizL (eVat x) ≤ 1048576) :
    Calls Try.prog 22 #[.agg us.toArray] w fun e w' => e = .returned (.int .i64 (countObjects x)) ∧ Below w.heap.size w w' := by
  have hzx := hz
  rw [siz_eVat] at hzx
  obtain ⟨v1, v2, v3, v4, rfl, h1, h2, h3, h4⟩ := rd_eVat hr
  obtain ⟨A, c, rfl, ⟨_, _, hl⟩⟩ := h1.slice
  have HR := Lib.hid h1
  clear hr h1 h2 h3 h4
  have HB0 := Lib.hid ((Below.refl w.heap.size w).alloc (Nat.le_refl _) (.cells #[.int .i64 x.Id, .slice A x.Entities.length c, v2, v3, v4] 35))
  go_enter Try.func22, Try.ntmps22
  go_wp2
  go_loopw [3, 4] (fun s t wr => ∃ i n : Nat, i ≤ x.Entities.length ∧ n ≤ i ∧ s = .int .i64 n ∧ t = .int .i64 i ∧ Hid (Below w.heap.size w wr) ∧ Hid (Blk wr w.heap.size 35 #[.int .i64 x.Id, .slice A x.Entities.length c, v2, v3, v4]) ∧ Hid (n = ((x.Entities.take i).filter fun e : GEntity => e.Kind == 1).length)) (fun s t wr => x.Entities.length - (intOf t).toNat)
  case atStart => exact ⟨0, 0, by omega, by omega, rfl, rfl, HB0, Blk.new _ _ _, rfl⟩
  case round =>
    obtain ⟨i, n, hi, hni, rfl, rfl, HB, HK, HN⟩ := hrel
    obtain ⟨kb, kf⟩ := HK.out.rules
    have hbl := HK.out.lt
    by_cases hlt : i < x.Entities.length
    · obtain ⟨y, hy⟩ : ∃ y, x.Entities[i]? = some y := ⟨x.Entities[i], List.getElem?_eq_getElem hlt⟩
      obtain ⟨ad, u2, u6, u7, rfl, hab, k0, k1, k2, k3, k4, k5, k6, k7, k8, k9, k10, k11, q2, q6, q7⟩ := row_eEntity (HR.out.below HB.out) hy
      have hab' : (ad.add (i * 12)).block < wr.heap.size := by rw [block_of_add]; exact hab
      obtain ⟨A2, c2, rfl, -⟩ := q2.slice
      obtain ⟨A6, c6, rfl, -⟩ := q6.slice
      obtain ⟨A7, c7, rfl, -⟩ := q7.slice
      obtain ⟨f0, f1, f2, f3, f4, f5, f6, f7, f8, f9, f10⟩ := y
      dsimp only at k0 k1 k2 k3 k4 k5 k6 k7 k8 k9 k10 k11
      have HX := Lib.hid hy
      clear hy q2 q6 q7
      by_cases e1 : f0 = 1
      · subst e1
        have HM : Hid (n + 1 = ((x.Entities.take (i + 1)).filter fun e : GEntity => e.Kind == 1).length) := by unfold Hid; rw [filter_take HX.out, List.length_append, ← HN.out]; simp
        go_wp2
        go_roundw
        case rel => exact ⟨i + 1, n + 1, by omega, by omega, by go_num, by go_num, HB, HK, HM⟩
        case measure => simp [intOf]; omega
      · have HM : Hid (n = ((x.Entities.take (i + 1)).filter fun e : GEntity => e.Kind == 1).length) := by unfold Hid; rw [filter_take HX.out, List.length_append, ← HN.out]; simp [e1]
        go_wp2
        go_roundw
        case rel => exact ⟨i + 1, n, by omega, by omega, by go_num, by go_num, HB, HK, HM⟩
        case measure => simp [intOf]; omega
    · have : i = x.Entities.length := by omega
      subst this
      have HE : Hid (countObjects x = (n : Int)) := by unfold Hid countObjects; rw [HN.out, List.take_length]
      go_wp2
      go_ret
      exact ⟨by rw [HE.out]; rfl, HB.out⟩
set_option maxHeartbeats 1600000 in
theorem impl_CountObjects_calls (us : List Value) (x : GVat) (w : World) (hr : RdLW w (eVat x) us) (hz : sizL (eVat x) ≤ 1048576) :
    Calls Try.prog 23 #[.agg us.toArray] w fun e w' => e = .returned (.int .i64 (countObjects x)) ∧ Below w.heap.size w w' := by
  have hzx := hz
  rw [siz_eVat] at hzx
  obtain ⟨v1, v2, v3, v4, rfl, h1, h2, h3, h4⟩ := rd_eVat hr
  obtain ⟨A, c, rfl, ⟨_, _, hl⟩⟩ := h1.slice
  have HR := Lib.hid h1
  clear hr h1 h2 h3 h4
  have HB0 := Lib.hid ((Below.refl w.heap.size w).alloc (Nat.le_refl _) (.cells #[.int .i64 x.Id, .slice A x.Entities.length c, v2, v3, v4] 35))
  go_enter Try.func23, Try.ntmps23
  go_wp2
  go_loopw [3, 9] (fun s t wr => ∃ i n : Nat, i ≤ x.Entities.length ∧ n ≤ i ∧ s = .int .i64 n ∧ t = .int .i64 i ∧ Hid (Below w.heap.size w wr) ∧ Hid (Blk wr w.heap.size 35 #[.int .i64 x.Id, .slice A x.Entities.length c, v2, v3, v4]) ∧ Hid (n = ((x.Entities.take i).filter fun e : GEntity => e.Kind == 1).length)) (fun s t wr => x.Entities.length - (intOf t).toNat)
  case atStart => exact ⟨0, 0, by omega, by omega, rfl, rfl, HB0, Blk.new _ _ _, rfl⟩
  case round =>
    obtain ⟨i, n, hi, hni, rfl, rfl, HB, HK, HN⟩ := hrel
    obtain ⟨kb, kf⟩ := HK.out.rules
    have hbl := HK.out.lt
    by_cases hlt : i < x.Entities.length
    · obtain ⟨y, hy⟩ : ∃ y, x.Entities[i]? = some y := ⟨x.Entities[i], List.getElem?_eq_getElem hlt⟩
      obtain ⟨ad, u2, u6, u7, rfl, hab, k0, k1, k2, k3, k4, k5, k6, k7, k8, k9, k10, k11, q2, q6, q7⟩ := row_eEntity (HR.out.below HB.out) hy
      have hab' : (ad.add (i * 12)).block < wr.heap.size := by rw [block_of_add]; exact hab
      obtain ⟨A2, c2, rfl, -⟩ := q2.slice
      obtain ⟨A6, c6, rfl, -⟩ := q6.slice
      obtain ⟨A7, c7, rfl, -⟩ := q7.slice
      obtain ⟨f0, f1, f2, f3, f4, f5, f6, f7, f8, f9, f10⟩ := y
      dsimp only at k0 k1 k2 k3 k4 k5 k6 k7 k8 k9 k10 k11
      have HX := Lib.hid hy
      clear hy q2 q6 q7
      by_cases e1 : f0 = 1
      · subst e1
        have HM : Hid (n + 1 = ((x.Entities.take (i + 1)).filter fun e : GEntity => e.Kind == 1).length) := by unfold Hid; rw [filter_take HX.out, List.length_append, ← HN.out]; simp
        go_wp2
        go_roundw
        case rel => exact ⟨i + 1, n + 1, by omega, by omega, by go_num, by go_num, HB.out.alloc HB.out.size _, HK.out.alloc _, HM⟩
        case measure => simp [intOf]; omega
      · have HM : Hid (n = ((x.Entities.take (i + 1)).filter fun e : GEntity => e.Kind == 1).length) := by unfold Hid; rw [filter_take HX.out, List.length_append, ← HN.out]; simp [e1]
        go_wp2
        go_roundw
        case rel => exact ⟨i + 1, n, by omega, by omega, by go_num, by go_num, HB.out.alloc HB.out.size _, HK.out.alloc _, HM⟩
        case measure => simp [intOf]; omega
    · have : i = x.Entities.length := by omega
      subst this
      have HE : Hid (countObjects x = (n : Int)) := by unfold Hid countObjects; rw [HN.out, List.take_length]
      go_wp2
      go_ret
      exact ⟨by rw [HE.out]; rfl, HB.out⟩
set_option maxHeartbeats 400000 in
theorem impl_Vat_entity_none (g : Nat) (A : Option Addr) (ln c : Nat) (id : Int) (v2 v3 v4 : Value) (n : Int) (w : World) (hb : Blk w g 35 #[.int .i64 id, .slice A ln c, v2, v3, v4]) (hln : ln ≤ 1048576) (hn : ¬ (0 ≤ n ∧ n ≤ (ln : Int) - 1)) :
    Calls Try.prog 61 #[.pointer (some ⟨g, 0, none⟩), .int .i64 n] w fun e w' => e = .returned (.pointer none) ∧ w' = w := by
  have HI : Hid (inR n 0 ((ln : Int) - 1) = false) := by unfold Hid inR; simpa using hn
  obtain ⟨k0, k1⟩ := hb.rules
  have hlt := hb.lt
  clear hn hb
  go_enter Try.func61, Try.ntmps61
  go_wp2_with fail
  refine (impl_in_calls _ _ _ _).mono ?_
  rintro e w1 ⟨rfl, rfl⟩
  rw [HI.out]
  go_wp2
  go_ret
  exact ⟨rfl, rfl⟩
set_option maxHeartbeats 400000 in
theorem impl_Vat_entity_some (g : Nat) (ad : Addr) (ln c : Nat) (id : Int) (v2 v3 v4 : Value) (i : Nat) (w : World) (hb : Blk w g 35 #[.int .i64 id, .slice (some ad) ln c, v2, v3, v4]) (hln : ln ≤ 1048576) (hn : i < ln) :
    Calls Try.prog 61 #[.pointer (some ⟨g, 0, none⟩), .int .i64 (i : Int)] w fun e w' => e = .returned (.pointer (some (ad.add (i * 12)))) ∧ w' = w := by
  have HI : Hid (inR (i : Int) 0 ((ln : Int) - 1) = true) := by unfold Hid inR; simp; omega
  obtain ⟨k0, k1⟩ := hb.rules
  have hlt := hb.lt
  clear hb
  go_enter Try.func61, Try.ntmps61
  go_wp2_with fail
  refine (impl_in_calls _ _ _ _).mono ?_
  rintro e w1 ⟨rfl, rfl⟩
  rw [HI.out]
  go_wp2
  go_ret
  exact ⟨rfl, rfl⟩
set_option maxHeartbeats 400000 in
theorem impl_IsNumber_calls (x : GValue) (n : Int) (w : World) :
    Calls Try.prog 103 #[.agg #[.int .i64 x.Kind, .int .i64 x.N], .int .i64 n] w fun e w' => e = .returned (.bool (eqbValue x ⟨0, n⟩)) ∧ Below w.heap.size w w' := by
  have heq : ∀ w, Sem.run Try.prog (binOp .eql 46 (.agg #[.int .i64 x.Kind, .int .i64 x.N]) (.agg #[.int .i64 0, .int .i64 n])) w = .ok (.bool (eqbValue x ⟨0, n⟩)) w := fun w => run_eql_Value x ⟨0, n⟩ w
  go_enter Try.func103, Try.ntmps103
  go_wp2
  go_ret
  exact ⟨rfl, (Below.refl _ _).alloc (Nat.le_refl _) _⟩
set_option maxHeartbeats 800000 in
theorem impl_Entity_isSwept_calls (p : Addr) (W : World) (k s : Int) (x : GValue) (hb : p.block < W.heap.size) (h0 : W.cell? p = some (.int .i64 k)) (h3 : W.cell? ⟨p.block, p.off + 3, none⟩ = some (.int .i64 s)) (h4 : W.cell? ⟨p.block, p.off + 4, none⟩ = some (.int .i64 x.Kind)) (h5 : W.cell? ⟨p.block, p.off + 5, none⟩ = some (.int .i64 x.N)) :
    Calls Try.prog 64 #[.pointer (some p)] W fun e w' => e = .returned (.bool (k == 2 && (s == 2 && eqbValue x zValue))) ∧ Below W.heap.size W w' := by
  by_cases e1 : ¬ k = 2
  · go_enter Try.func64, Try.ntmps64
    go_wp2
    go_ret
    exact ⟨by simp [e1], Below.refl _ _⟩
  replace e1 := Classical.not_not.1 e1
  subst e1
  by_cases e2 : ¬ s = 2
  · go_enter Try.func64, Try.ntmps64
    go_wp2
    go_ret
    exact ⟨by simp [e2], Below.refl _ _⟩
  replace e2 := Classical.not_not.1 e2
  subst e2
  go_enter Try.func64, Try.ntmps64
  go_wp2_with fail
  refine (impl_IsNumber_calls x 0 _).mono ?_
  rintro e w1 ⟨rfl, hb1⟩
  go_wp2
  go_ret
  exact ⟨rfl, hb1⟩
set_option maxHeartbeats 1600000 in
theorem spec_IsHolding_calls (us : List Value) (x : GVat) (p : Int) (w : World) (hr : RdLW w (eVat x) us) (hz : sizL (eVat x) ≤ 1048576) (hi : I64 p) :
    Calls Try.prog 20 #[.agg us.toArray, .int .i64 p] w fun e w' => e = .returned (.bool (isHolding x p)) ∧ Below w.heap.size w w' := by
  have hzx := hz
  rw [siz_eVat] at hzx
  obtain ⟨v1, v2, v3, v4, rfl, h1, h2, h3, h4⟩ := rd_eVat hr
  obtain ⟨A, c, rfl, ⟨_, _, hl⟩⟩ := h1.slice
  have HR := Lib.hid h1
  clear hr h1 h2 h3 h4
  have HB0 := Lib.hid ((Below.refl w.heap.size w).alloc (Nat.le_refl _) (.cells #[.int .i64 x.Id, .slice A x.Entities.length c, v2, v3, v4] 35))
  cases hen : entAt x.Entities p with
  | none =>
    have HE : Hid (isHolding x p = false) := entB_none hen
    have hout := entAt_out hen
    have HI : Hid (inR p 0 ((x.Entities.length : Int) - 1) = false) := by unfold Hid inR; simpa using hout
    clear hen
    go_enter Try.func20, Try.ntmps20
    go_wp2_with fail
    refine (spec_l1In_calls _ _ _ _).mono ?_
    rintro e w1 ⟨rfl, rfl⟩
    rw [HI.out]
    go_wp2
    go_ret
    exact ⟨by rw [HE.out]; rfl, HB0.out⟩
  | some y =>
    obtain ⟨i, rfl, hlt, hy⟩ := entAt_some hen
    have HI : Hid (inR (i : Int) 0 ((x.Entities.length : Int) - 1) = true) := by unfold Hid inR; simp; omega
    have HE : Hid (isHolding x i = heldB y) := entB_some hen
    clear hen
    obtain ⟨ad, u2, u6, u7, rfl, hab, k0, k1, k2, k3, k4, k5, k6, k7, k8, k9, k10, k11, q2, q6, q7⟩ := row_eEntity HR.out hy
    have hab' : (ad.add (i * 12)).block < w.heap.size := by rw [block_of_add]; exact hab
    obtain ⟨A2, c2, rfl, -⟩ := q2.slice
    obtain ⟨A6, c6, rfl, -⟩ := q6.slice
    obtain ⟨A7, c7, rfl, -⟩ := q7.slice
    obtain ⟨f0, f1, f2, f3, f4, f5, f6, f7, f8, f9, f10⟩ := y
    dsimp only at k0 k1 k2 k3 k4 k5 k6 k7 k8 k9 k10 k11
    have HX := Lib.hid hy
    clear hy q2 q6 q7
    go_enter Try.func20, Try.ntmps20
    go_wp2_with fail
    refine (spec_l1In_calls _ _ _ _).mono ?_
    rintro e w1 ⟨rfl, rfl⟩
    rw [HI.out]
    by_cases e1 : ¬ f0 = 2
    · go_wp2
      go_ret
      exact ⟨by rw [HE.out]; simp [heldB, e1], HB0.out⟩
    replace e1 := Classical.not_not.1 e1
    subst e1
    by_cases e2 : ¬ f3 = 4
    · go_wp2
      go_ret
      exact ⟨by rw [HE.out]; simp [heldB, e2], HB0.out⟩
    replace e2 := Classical.not_not.1 e2
    subst e2
    go_wp2
    go_ret
    exact ⟨by rw [HE.out]; simp [heldB], HB0.out⟩
set_option maxHeartbeats 1600000 in
theorem impl_IsHolding_calls (us : List Value) (x : GVat) (p : Int) (w : World) (hr : RdLW w (eVat x) us) (hz : sizL (eVat x) ≤ 1048576) (hi : I64 p) :
    Calls Try.prog 21 #[.agg us.toArray, .int .i64 p] w fun e w' => e = .returned (.bool (isHolding x p)) ∧ Below w.heap.size w w' := by
  have hzx := hz
  rw [siz_eVat] at hzx
  obtain ⟨v1, v2, v3, v4, rfl, h1, h2, h3, h4⟩ := rd_eVat hr
  obtain ⟨A, c, rfl, ⟨_, _, hl⟩⟩ := h1.slice
  have HR := Lib.hid h1
  clear hr h1 h2 h3 h4
  have HB0 := Lib.hid ((Below.refl w.heap.size w).alloc (Nat.le_refl _) (.cells #[.int .i64 x.Id, .slice A x.Entities.length c, v2, v3, v4] 35))
  cases hen : entAt x.Entities p with
  | none =>
    have HE : Hid (isHolding x p = false) := entB_none hen
    have hout := entAt_out hen
    have HI : Hid (inR p 0 ((x.Entities.length : Int) - 1) = false) := by unfold Hid inR; simpa using hout
    clear hen
    go_enter Try.func21, Try.ntmps21
    go_wp2_with fail
    refine (impl_Vat_entity_none w.heap.size A x.Entities.length c x.Id v2 v3 v4 p _ (Blk.new _ _ _) (by omega) hout).mono ?_
    rintro e w1 ⟨rfl, rfl⟩
    go_wp2
    go_ret
    exact ⟨by rw [HE.out]; rfl, HB0.out⟩
  | some y =>
    obtain ⟨i, rfl, hlt, hy⟩ := entAt_some hen
    have HI : Hid (inR (i : Int) 0 ((x.Entities.length : Int) - 1) = true) := by unfold Hid inR; simp; omega
    have HE : Hid (isHolding x i = heldB y) := entB_some hen
    clear hen
    obtain ⟨ad, u2, u6, u7, rfl, hab, k0, k1, k2, k3, k4, k5, k6, k7, k8, k9, k10, k11, q2, q6, q7⟩ := row_eEntity HR.out hy
    have hab' : (ad.add (i * 12)).block < w.heap.size := by rw [block_of_add]; exact hab
    obtain ⟨A2, c2, rfl, -⟩ := q2.slice
    obtain ⟨A6, c6, rfl, -⟩ := q6.slice
    obtain ⟨A7, c7, rfl, -⟩ := q7.slice
    obtain ⟨f0, f1, f2, f3, f4, f5, f6, f7, f8, f9, f10⟩ := y
    dsimp only at k0 k1 k2 k3 k4 k5 k6 k7 k8 k9 k10 k11
    have HX := Lib.hid hy
    clear hy q2 q6 q7
    go_enter Try.func21, Try.ntmps21
    go_wp2_with fail
    refine (impl_Vat_entity_some w.heap.size ad x.Entities.length c x.Id v2 v3 v4 i _ (Blk.new _ _ _) (by omega) hlt).mono ?_
    rintro e w1 ⟨rfl, rfl⟩
    by_cases e1 : ¬ f0 = 2
    · go_wp2
      go_ret
      exact ⟨by rw [HE.out]; simp [heldB, e1], HB0.out⟩
    replace e1 := Classical.not_not.1 e1
    subst e1
    by_cases e2 : ¬ f3 = 4
    · go_wp2
      go_ret
      exact ⟨by rw [HE.out]; simp [heldB, e2], HB0.out⟩
    replace e2 := Classical.not_not.1 e2
    subst e2
    go_wp2
    go_ret
    exact ⟨by rw [HE.out]; simp [heldB], HB0.out⟩
set_option maxHeartbeats 1600000 in
theorem spec_IsSwept_calls (us : List Value) (x : GVat) (p : Int) (w : World) (hr : RdLW w (eVat x) us) (hz : sizL (eVat x) ≤ 1048576) (hi : I64 p) :
    Calls Try.prog 26 #[.agg us.toArray, .int .i64 p] w fun e w' => e = .returned (.bool (isSwept x p)) ∧ Below w.heap.size w w' := by
  have hzx := hz
  rw [siz_eVat] at hzx
  obtain ⟨v1, v2, v3, v4, rfl, h1, h2, h3, h4⟩ := rd_eVat hr
  obtain ⟨A, c, rfl, ⟨_, _, hl⟩⟩ := h1.slice
  have HR := Lib.hid h1
  clear hr h1 h2 h3 h4
  have HB0 := Lib.hid ((Below.refl w.heap.size w).alloc (Nat.le_refl _) (.cells #[.int .i64 x.Id, .slice A x.Entities.length c, v2, v3, v4] 35))
  cases hen : entAt x.Entities p with
  | none =>
    have HE : Hid (isSwept x p = false) := entB_none hen
    have hout := entAt_out hen
    have HI : Hid (inR p 0 ((x.Entities.length : Int) - 1) = false) := by unfold Hid inR; simpa using hout
    clear hen
    go_enter Try.func26, Try.ntmps26
    go_wp2_with fail
    refine (spec_l1In_calls _ _ _ _).mono ?_
    rintro e w1 ⟨rfl, rfl⟩
    rw [HI.out]
    go_wp2
    go_ret
    exact ⟨by rw [HE.out]; rfl, HB0.out⟩
  | some y =>
    obtain ⟨i, rfl, hlt, hy⟩ := entAt_some hen
    have HI : Hid (inR (i : Int) 0 ((x.Entities.length : Int) - 1) = true) := by unfold Hid inR; simp; omega
    have HE : Hid (isSwept x i = sweptB y) := entB_some hen
    clear hen
    obtain ⟨ad, u2, u6, u7, rfl, hab, k0, k1, k2, k3, k4, k5, k6, k7, k8, k9, k10, k11, q2, q6, q7⟩ := row_eEntity HR.out hy
    have hab' : (ad.add (i * 12)).block < w.heap.size := by rw [block_of_add]; exact hab
    obtain ⟨A2, c2, rfl, -⟩ := q2.slice
    obtain ⟨A6, c6, rfl, -⟩ := q6.slice
    obtain ⟨A7, c7, rfl, -⟩ := q7.slice
    obtain ⟨f0, f1, f2, f3, f4, f5, f6, f7, f8, f9, f10⟩ := y
    dsimp only at k0 k1 k2 k3 k4 k5 k6 k7 k8 k9 k10 k11
    have HX := Lib.hid hy
    clear hy q2 q6 q7
    have heq : ∀ w, Sem.run Try.prog (binOp .eql 46 (.agg #[.int .i64 f4.Kind, .int .i64 f4.N]) (.agg #[.int .i64 0, .int .i64 0])) w = .ok (.bool (eqbValue f4 zValue)) w := fun w => run_eql_Value f4 zValue w
    go_enter Try.func26, Try.ntmps26
    go_wp2_with fail
    refine (spec_l1In_calls _ _ _ _).mono ?_
    rintro e w1 ⟨rfl, rfl⟩
    rw [HI.out]
    by_cases e1 : ¬ f0 = 2
    · go_wp2
      go_ret
      exact ⟨by rw [HE.out]; simp [sweptB, e1], HB0.out.alloc (by simp) _⟩
    replace e1 := Classical.not_not.1 e1
    subst e1
    by_cases e2 : ¬ f3 = 2
    · go_wp2
      go_ret
      exact ⟨by rw [HE.out]; simp [sweptB, e2], HB0.out.alloc (by simp) _⟩
    replace e2 := Classical.not_not.1 e2
    subst e2
    go_wp2
    go_ret
    exact ⟨by rw [HE.out]; simp [sweptB], HB0.out.alloc (by simp) _⟩
set_option maxHeartbeats 1600000 in
theorem impl_IsSwept_calls (us : List Value) (x : GVat) (p : Int) (w : World) (hr : RdLW w (eVat x) us) (hz : sizL (eVat x) ≤ 1048576) (hi : I64 p) :
    Calls Try.prog 27 #[.agg us.toArray, .int .i64 p] w fun e w' => e = .returned (.bool (isSwept x p)) ∧ Below w.heap.size w w' := by
  have hzx := hz
  rw [siz_eVat] at hzx
  obtain ⟨v1, v2, v3, v4, rfl, h1, h2, h3, h4⟩ := rd_eVat hr
  obtain ⟨A, c, rfl, ⟨_, _, hl⟩⟩ := h1.slice
  have HR := Lib.hid h1
  clear hr h1 h2 h3 h4
  have HB0 := Lib.hid ((Below.refl w.heap.size w).alloc (Nat.le_refl _) (.cells #[.int .i64 x.Id, .slice A x.Entities.length c, v2, v3, v4] 35))
  cases hen : entAt x.Entities p with
  | none =>
    have HE : Hid (isSwept x p = false) := entB_none hen
    have hout := entAt_out hen
    have HI : Hid (inR p 0 ((x.Entities.length : Int) - 1) = false) := by unfold Hid inR; simpa using hout
    clear hen
    go_enter Try.func27, Try.ntmps27
    go_wp2_with fail
    refine (impl_Vat_entity_none w.heap.size A x.Entities.length c x.Id v2 v3 v4 p _ (Blk.new _ _ _) (by omega) hout).mono ?_
    rintro e w1 ⟨rfl, rfl⟩
    go_wp2
    go_ret
    exact ⟨by rw [HE.out]; rfl, HB0.out⟩
  | some y =>
    obtain ⟨i, rfl, hlt, hy⟩ := entAt_some hen
    have HI : Hid (inR (i : Int) 0 ((x.Entities.length : Int) - 1) = true) := by unfold Hid inR; simp; omega
    have HE : Hid (isSwept x i = sweptB y) := entB_some hen
    clear hen
    obtain ⟨ad, u2, u6, u7, rfl, hab, k0, k1, k2, k3, k4, k5, k6, k7, k8, k9, k10, k11, q2, q6, q7⟩ := row_eEntity HR.out hy
    have hab' : (ad.add (i * 12)).block < w.heap.size := by rw [block_of_add]; exact hab
    obtain ⟨A2, c2, rfl, -⟩ := q2.slice
    obtain ⟨A6, c6, rfl, -⟩ := q6.slice
    obtain ⟨A7, c7, rfl, -⟩ := q7.slice
    obtain ⟨f0, f1, f2, f3, f4, f5, f6, f7, f8, f9, f10⟩ := y
    dsimp only at k0 k1 k2 k3 k4 k5 k6 k7 k8 k9 k10 k11
    have HX := Lib.hid hy
    clear hy q2 q6 q7
    go_enter Try.func27, Try.ntmps27
    go_wp2_with fail
    refine (impl_Vat_entity_some w.heap.size ad x.Entities.length c x.Id v2 v3 v4 i _ (Blk.new _ _ _) (by omega) hlt).mono ?_
    rintro e w1 ⟨rfl, rfl⟩
    go_wp2_with fail
    refine (impl_Entity_isSwept_calls (ad.add (i * 12)) (w.alloc (.cells #[.int .i64 x.Id, .slice (some ad) x.Entities.length c, v2, v3, v4] 35)) f0 f3 f4 (by simp only [size_alloc]; omega) ((World.cell?_alloc_some _ _ _ (by rw [k0]; rfl)).trans k0) ((World.cell?_alloc_some _ _ _ (by rw [k3]; rfl)).trans k3) ((World.cell?_alloc_some _ _ _ (by rw [k4]; rfl)).trans k4) ((World.cell?_alloc_some _ _ _ (by rw [k5]; rfl)).trans k5)).mono ?_
    rintro e w1 ⟨rfl, hb1⟩
    go_wp2
    go_ret
    exact ⟨by rw [HE.out]; rfl, HB0.out.trans (hb1.mono (by simp only [size_alloc]; omega))⟩

end Go.Proofs.Ytapbejepffpckaa
