import Derived.Test.YtiohoeafdaihpaaProg
import Derived.Test.YtiohoeafdaihpaaTypes
import Derived.StillTailTactics
import Derived.Deep.CutBlock
import Derived.Deep.CutRange
import Derived.Laws.OwnMore
import Derived.Deep.AppendLies
import Derived.Deep.RegionWith
import Derived.Deep.RegionHeld3
import Derived.Laws.IdiomStrings
import Derived.Test.YtiohoeafdaihpaaAppend
import Derived.Laws.StructEq
import Derived.Lib.SliceRun
import Derived.Shelf.RegionOpenPlain
import Derived.Test.YtiohoeafdaihpaaDraw
import Derived.Test.YtiohoeafdaihpaaHelp
namespace Go.Proofs.Ytiohoeafdaihpaa
open Go.RowKit
set_option linter.unusedVariables false
set_option linter.unusedSimpArgs false

/-- the text of a digit -/
def dig (n : Int) : ByteArray := if n = 0 then ⟨#[48]⟩ else if n = 1 then ⟨#[49]⟩ else if n = 2 then ⟨#[50]⟩ else ⟨#[51]⟩
def D4 (n : Int) : Prop := n = 0 ∨ n = 1 ∨ n = 2 ∨ n = 3
def opTab : List ByteArray := [⟨#[]⟩, ⟨#[99, 111, 110, 115, 116]⟩, ⟨#[97, 114, 103]⟩, ⟨#[115, 108, 111, 116]⟩, ⟨#[115, 101, 108, 102]⟩, ⟨#[97, 100, 100]⟩, ⟨#[115, 101, 110, 100]⟩, ⟨#[110, 101, 119]⟩, ⟨#[115, 101, 116]⟩, ⟨#[115, 107, 105, 112]⟩, ⟨#[114, 101, 116, 117, 114, 110]⟩]
def opNm (n : Int) : ByteArray := (opTab[n.toNat]?).getD ⟨#[]⟩
/-- the number at a place of a line -/
def numAt (xs : List ByteArray) (i : Nat) : Int := match xs[i]? with
  | none => -1
  | some s => if s = dig 0 then 0 else if s = dig 1 then 1 else if s = dig 2 then 2 else 3
def okNum (xs : List ByteArray) (i : Nat) : Prop := ∀ s, xs[i]? = some s → s = dig 0 ∨ s = dig 1 ∨ s = dig 2 ∨ s = dig 3
set_option maxHeartbeats 6400000 in
theorem spec_FormatInt_calls (n : Int) (hn : D4 n) (w : World) :
    Calls Try.prog 119 #[.int .i64 n] w fun e w' => e = .returned (.string (dig n)) ∧ Below w.heap.size w w' := by
  rcases hn with rfl | rfl | rfl | rfl
  · go_enter Try.func119, Try.ntmps119
    go_wp2
    go_ret
    exact ⟨rfl, Below.refl _ _⟩
  · go_enter Try.func119, Try.ntmps119
    go_wp2
    go_loopw [3, 4] (fun a b wr => Hid (Below w.heap.size w wr) ∧ ((a = .string ⟨#[]⟩ ∧ b = .int .i64 1) ∨ (a = .string (dig 1) ∧ b = .int .i64 0))) (fun a b wr => (intOf b).toNat)
    case atStart => exact ⟨Below.refl _ _, .inl ⟨rfl, rfl⟩⟩
    case round =>
      obtain ⟨HB, ⟨rfl, rfl⟩ | ⟨rfl, rfl⟩⟩ := hrel
      · have zr := HB.out.size
        have hcb : (convert 40 9 (.slice (some ⟨wr.heap.size, 0, none⟩) 1 1)).run Try.prog (wr.alloc (.cells #[.int .u8 49] 5)) = .ok (.string ⟨#[49]⟩) (wr.alloc (.cells #[.int .u8 49] 5)) :=
          run_convert_bytes_back _ _ _ 5 ⟨wr.heap.size, 0, none⟩ 1 [49] Try.underlying40 Try.underlying5 Try.underlying9 (fun j hj => by
            have hj0 : j = 0 := by simp at hj; exact hj
            subst hj0
            rw [add_zero_own, (Blk.new wr 5 #[.int .u8 49]).cell 0]
            rfl)
        go_wp2
        go_roundw
        case rel => exact ⟨HB.out.alloc zr _, .inr ⟨rfl, rfl⟩⟩
        case measure => simp [intOf]
      · go_wp2
        go_ret
        exact ⟨rfl, HB.out⟩
  · go_enter Try.func119, Try.ntmps119
    go_wp2
    go_loopw [3, 4] (fun a b wr => Hid (Below w.heap.size w wr) ∧ ((a = .string ⟨#[]⟩ ∧ b = .int .i64 2) ∨ (a = .string (dig 2) ∧ b = .int .i64 0))) (fun a b wr => (intOf b).toNat)
    case atStart => exact ⟨Below.refl _ _, .inl ⟨rfl, rfl⟩⟩
    case round =>
      obtain ⟨HB, ⟨rfl, rfl⟩ | ⟨rfl, rfl⟩⟩ := hrel
      · have zr := HB.out.size
        have hcb : (convert 40 9 (.slice (some ⟨wr.heap.size, 0, none⟩) 1 1)).run Try.prog (wr.alloc (.cells #[.int .u8 50] 5)) = .ok (.string ⟨#[50]⟩) (wr.alloc (.cells #[.int .u8 50] 5)) :=
          run_convert_bytes_back _ _ _ 5 ⟨wr.heap.size, 0, none⟩ 1 [50] Try.underlying40 Try.underlying5 Try.underlying9 (fun j hj => by
            have hj0 : j = 0 := by simp at hj; exact hj
            subst hj0
            rw [add_zero_own, (Blk.new wr 5 #[.int .u8 50]).cell 0]
            rfl)
        go_wp2
        go_roundw
        case rel => exact ⟨HB.out.alloc zr _, .inr ⟨rfl, rfl⟩⟩
        case measure => simp [intOf]
      · go_wp2
        go_ret
        exact ⟨rfl, HB.out⟩
  · go_enter Try.func119, Try.ntmps119
    go_wp2
    go_loopw [3, 4] (fun a b wr => Hid (Below w.heap.size w wr) ∧ ((a = .string ⟨#[]⟩ ∧ b = .int .i64 3) ∨ (a = .string (dig 3) ∧ b = .int .i64 0))) (fun a b wr => (intOf b).toNat)
    case atStart => exact ⟨Below.refl _ _, .inl ⟨rfl, rfl⟩⟩
    case round =>
      obtain ⟨HB, ⟨rfl, rfl⟩ | ⟨rfl, rfl⟩⟩ := hrel
      · have zr := HB.out.size
        have hcb : (convert 40 9 (.slice (some ⟨wr.heap.size, 0, none⟩) 1 1)).run Try.prog (wr.alloc (.cells #[.int .u8 51] 5)) = .ok (.string ⟨#[51]⟩) (wr.alloc (.cells #[.int .u8 51] 5)) :=
          run_convert_bytes_back _ _ _ 5 ⟨wr.heap.size, 0, none⟩ 1 [51] Try.underlying40 Try.underlying5 Try.underlying9 (fun j hj => by
            have hj0 : j = 0 := by simp at hj; exact hj
            subst hj0
            rw [add_zero_own, (Blk.new wr 5 #[.int .u8 51]).cell 0]
            rfl)
        go_wp2
        go_roundw
        case rel => exact ⟨HB.out.alloc zr _, .inr ⟨rfl, rfl⟩⟩
        case measure => simp [intOf]
      · go_wp2
        go_ret
        exact ⟨rfl, HB.out⟩
set_option maxHeartbeats 1600000 in
theorem spec_OpName_calls (n : Nat) (h0 : 1 ≤ n) (h1 : n ≤ 10) (w : World) :
    Calls Try.prog 117 #[.int .i64 n] w fun e w' => e = .returned (.string (opNm n)) ∧ Below w.heap.size w w' := by
  have hI : inR n 1 10 = true := by unfold inR; simp; omega
  obtain ⟨x, hx⟩ : ∃ x, opTab[n]? = some x := ⟨_, List.getElem?_eq_getElem (by show n < 11; omega)⟩
  have HE : Hid (opNm n = x) := by unfold Hid opNm; rw [Int.toNat_natCast, hx]; rfl
  obtain ⟨ad, hA, hab, hc⟩ := row_eStr (rdW_lit vals_eStr w opTab 9 (by decide)) hx
  injection hA with hA
  subst hA
  have hc2 : (w.alloc (.cells #[.string ⟨#[]⟩, .string ⟨#[99, 111, 110, 115, 116]⟩, .string ⟨#[97, 114, 103]⟩, .string ⟨#[115, 108, 111, 116]⟩, .string ⟨#[115, 101, 108, 102]⟩, .string ⟨#[97, 100, 100]⟩, .string ⟨#[115, 101, 110, 100]⟩, .string ⟨#[110, 101, 119]⟩, .string ⟨#[115, 101, 116]⟩, .string ⟨#[115, 107, 105, 112]⟩, .string ⟨#[114, 101, 116, 117, 114, 110]⟩] 9)).cell? ⟨w.heap.size, n, none⟩ = some (.string x) := by rw [← hc, add_zero_own]; rfl
  have hn11 : (n : Int) < 11 := by omega
  clear hc hab hx
  go_enter Try.func117, Try.ntmps117
  go_wp2_with fail
  refine (spec_l1In_calls _ _ _ _).mono ?_
  rintro e w1 ⟨rfl, hw1⟩
  subst hw1
  rw [hI]
  go_wp2
  go_ret
  exact ⟨by rw [HE.out]; rfl, (Below.refl _ _).alloc (Nat.le_refl _) _⟩
theorem op_far {n k : Nat} (h0 : 1 ≤ n) (h1 : n < k) (h2 : k ≤ 10) : (opNm n).toList ≠ (opNm k).toList := by
  have h : ∀ a b : Fin 11, 1 ≤ a.val → a.val < b.val → (opNm (a.val : Int)).data.toList ≠ (opNm (b.val : Int)).data.toList := by decide +kernel
  have h3 := h ⟨n, by omega⟩ ⟨k, by omega⟩ h0 h1
  rw [ByteArray.toList_eq, ByteArray.toList_eq]
  exact h3
set_option maxHeartbeats 1600000 in
theorem spec_l7Op_calls (k : Nat) (h0 : 1 ≤ k) (h1 : k ≤ 10) (w : World) :
    Calls Try.prog 114 #[.string (opNm k)] w fun e w' => e = .returned (.int .i64 k) ∧ Below w.heap.size w w' := by
  go_enter Try.func114, Try.ntmps114
  go_wp2
  go_loopw [3] (fun a wr => ∃ n : Nat, 1 ≤ n ∧ n ≤ k ∧ a = .int .i64 n ∧ Hid (Below w.heap.size w wr)) (fun a wr => k - (intOf a).toNat)
  case atStart => exact ⟨1, by omega, h0, rfl, Below.refl _ _⟩
  case round =>
    obtain ⟨n, n0, n1, rfl, HB⟩ := hrel
    have zr := HB.out.size
    have hn10 : (n : Int) ≤ 10 := by omega
    go_wp2_with fail
    refine (spec_OpName_calls n n0 (by omega) _).mono ?_
    rintro e w2 ⟨rfl, hb⟩
    have HB2 := Lib.hid (HB.out.trans (hb.mono zr))
    clear hb
    by_cases hk : n = k
    · subst hk
      go_wp2
      go_ret
      exact ⟨rfl, HB2.out⟩
    · have hne := op_far n0 (show n < k by omega) h1
      have hne2 : ((opNm n).toList == (opNm k).toList) = false := by simpa using hne
      go_wp2
      go_roundw
      case rel => exact ⟨n + 1, by omega, by omega, by go_num, HB2⟩
      case measure => simp [intOf]; omega
theorem dig_inj {a b : Int} (ha : D4 a) (hb : D4 b) (h : dig a = dig b) : a = b := by
  rcases ha with rfl | rfl | rfl | rfl <;> rcases hb with rfl | rfl | rfl | rfl <;> first | rfl | (exfalso; revert h; decide)
set_option maxHeartbeats 6400000 in
theorem spec_ParseInt_calls (n : Int) (hn : D4 n) (w : World) :
    Calls Try.prog 118 #[.string (dig n)] w fun e w' => e = .returned (.tuple #[.int .i64 n, .bool true]) ∧ Below w.heap.size w w' := by
  have HD := Lib.hid hn
  rcases hn with rfl | rfl | rfl | rfl
  · show Calls Try.prog 118 #[.string ⟨#[48]⟩] w _
    have hbt : ∀ h, ((⟨#[48]⟩ : ByteArray)[0]'h).toNat = 48 := fun _ => rfl
    go_enter Try.func118, Try.ntmps118
    go_wp2_with fail
    refine (spec_l1In_calls _ _ _ _).mono ?_
    rintro e w1 ⟨rfl, hw1⟩
    subst hw1
    rw [show inR (1 : Int) 1 13 = true from rfl]
    go_wp2
    go_loopw [4, 5] (fun a b wr => Hid (wr = w1) ∧ ((a = .int .i64 0 ∧ b = .int .i64 0) ∨ (a = .int .i64 0 ∧ b = .int .i64 1))) (fun a b wr => 1 - (intOf b).toNat)
    case atStart => exact ⟨rfl, .inl ⟨rfl, rfl⟩⟩
    case round =>
      obtain ⟨HW, ⟨rfl, rfl⟩ | ⟨rfl, rfl⟩⟩ := hrel
      · go_wp2_with fail
        refine (spec_l1In_calls _ _ _ _).mono ?_
        rintro e w2 ⟨rfl, hw2⟩
        subst hw2
        simp only [hbt]
        rw [show inR 48 48 57 = true from rfl]
        go_wp2
        go_roundw
        case rel => exact ⟨HW, .inr ⟨rfl, rfl⟩⟩
        case measure => simp [intOf]
      · go_wp2_with fail
        refine (spec_FormatInt_calls 0 HD.out _).mono ?_
        rintro e w2 ⟨rfl, hb⟩
        have HB := Lib.hid hb
        clear hb
        rw [show dig 0 = ⟨#[48]⟩ from rfl]
        go_wp2
        refine bodyPost_ret (v := .tuple #[.int .i64 0, .bool true]) (by simp [results, Try.results118, go_sem]) rfl ⟨rfl, by have h := HW.out; rw [← h]; exact HB.out⟩
  · show Calls Try.prog 118 #[.string ⟨#[49]⟩] w _
    have hbt : ∀ h, ((⟨#[49]⟩ : ByteArray)[0]'h).toNat = 49 := fun _ => rfl
    go_enter Try.func118, Try.ntmps118
    go_wp2_with fail
    refine (spec_l1In_calls _ _ _ _).mono ?_
    rintro e w1 ⟨rfl, hw1⟩
    subst hw1
    rw [show inR (1 : Int) 1 13 = true from rfl]
    go_wp2
    go_loopw [4, 5] (fun a b wr => Hid (wr = w1) ∧ ((a = .int .i64 0 ∧ b = .int .i64 0) ∨ (a = .int .i64 1 ∧ b = .int .i64 1))) (fun a b wr => 1 - (intOf b).toNat)
    case atStart => exact ⟨rfl, .inl ⟨rfl, rfl⟩⟩
    case round =>
      obtain ⟨HW, ⟨rfl, rfl⟩ | ⟨rfl, rfl⟩⟩ := hrel
      · go_wp2_with fail
        refine (spec_l1In_calls _ _ _ _).mono ?_
        rintro e w2 ⟨rfl, hw2⟩
        subst hw2
        simp only [hbt]
        rw [show inR 49 48 57 = true from rfl]
        go_wp2
        go_roundw
        case rel => exact ⟨HW, .inr ⟨rfl, rfl⟩⟩
        case measure => simp [intOf]
      · go_wp2_with fail
        refine (spec_FormatInt_calls 1 HD.out _).mono ?_
        rintro e w2 ⟨rfl, hb⟩
        have HB := Lib.hid hb
        clear hb
        rw [show dig 1 = ⟨#[49]⟩ from rfl]
        go_wp2
        refine bodyPost_ret (v := .tuple #[.int .i64 1, .bool true]) (by simp [results, Try.results118, go_sem]) rfl ⟨rfl, by have h := HW.out; rw [← h]; exact HB.out⟩
  · show Calls Try.prog 118 #[.string ⟨#[50]⟩] w _
    have hbt : ∀ h, ((⟨#[50]⟩ : ByteArray)[0]'h).toNat = 50 := fun _ => rfl
    go_enter Try.func118, Try.ntmps118
    go_wp2_with fail
    refine (spec_l1In_calls _ _ _ _).mono ?_
    rintro e w1 ⟨rfl, hw1⟩
    subst hw1
    rw [show inR (1 : Int) 1 13 = true from rfl]
    go_wp2
    go_loopw [4, 5] (fun a b wr => Hid (wr = w1) ∧ ((a = .int .i64 0 ∧ b = .int .i64 0) ∨ (a = .int .i64 2 ∧ b = .int .i64 1))) (fun a b wr => 1 - (intOf b).toNat)
    case atStart => exact ⟨rfl, .inl ⟨rfl, rfl⟩⟩
    case round =>
      obtain ⟨HW, ⟨rfl, rfl⟩ | ⟨rfl, rfl⟩⟩ := hrel
      · go_wp2_with fail
        refine (spec_l1In_calls _ _ _ _).mono ?_
        rintro e w2 ⟨rfl, hw2⟩
        subst hw2
        simp only [hbt]
        rw [show inR 50 48 57 = true from rfl]
        go_wp2
        go_roundw
        case rel => exact ⟨HW, .inr ⟨rfl, rfl⟩⟩
        case measure => simp [intOf]
      · go_wp2_with fail
        refine (spec_FormatInt_calls 2 HD.out _).mono ?_
        rintro e w2 ⟨rfl, hb⟩
        have HB := Lib.hid hb
        clear hb
        rw [show dig 2 = ⟨#[50]⟩ from rfl]
        go_wp2
        refine bodyPost_ret (v := .tuple #[.int .i64 2, .bool true]) (by simp [results, Try.results118, go_sem]) rfl ⟨rfl, by have h := HW.out; rw [← h]; exact HB.out⟩
  · show Calls Try.prog 118 #[.string ⟨#[51]⟩] w _
    have hbt : ∀ h, ((⟨#[51]⟩ : ByteArray)[0]'h).toNat = 51 := fun _ => rfl
    go_enter Try.func118, Try.ntmps118
    go_wp2_with fail
    refine (spec_l1In_calls _ _ _ _).mono ?_
    rintro e w1 ⟨rfl, hw1⟩
    subst hw1
    rw [show inR (1 : Int) 1 13 = true from rfl]
    go_wp2
    go_loopw [4, 5] (fun a b wr => Hid (wr = w1) ∧ ((a = .int .i64 0 ∧ b = .int .i64 0) ∨ (a = .int .i64 3 ∧ b = .int .i64 1))) (fun a b wr => 1 - (intOf b).toNat)
    case atStart => exact ⟨rfl, .inl ⟨rfl, rfl⟩⟩
    case round =>
      obtain ⟨HW, ⟨rfl, rfl⟩ | ⟨rfl, rfl⟩⟩ := hrel
      · go_wp2_with fail
        refine (spec_l1In_calls _ _ _ _).mono ?_
        rintro e w2 ⟨rfl, hw2⟩
        subst hw2
        simp only [hbt]
        rw [show inR 51 48 57 = true from rfl]
        go_wp2
        go_roundw
        case rel => exact ⟨HW, .inr ⟨rfl, rfl⟩⟩
        case measure => simp [intOf]
      · go_wp2_with fail
        refine (spec_FormatInt_calls 3 HD.out _).mono ?_
        rintro e w2 ⟨rfl, hb⟩
        have HB := Lib.hid hb
        clear hb
        rw [show dig 3 = ⟨#[51]⟩ from rfl]
        go_wp2
        refine bodyPost_ret (v := .tuple #[.int .i64 3, .bool true]) (by simp [results, Try.results118, go_sem]) rfl ⟨rfl, by have h := HW.out; rw [← h]; exact HB.out⟩
theorem D4_of {xs : List ByteArray} {i : Nat} {s : ByteArray} (h : okNum xs i) (hx : xs[i]? = some s) : ∃ n, D4 n ∧ s = dig n ∧ numAt xs i = n := by
  rcases h s hx with rfl | rfl | rfl | rfl
  · exact ⟨0, .inl rfl, rfl, by unfold numAt; rw [hx]; rfl⟩
  · exact ⟨1, .inr (.inl rfl), rfl, by unfold numAt; rw [hx]; rfl⟩
  · exact ⟨2, .inr (.inr (.inl rfl)), rfl, by unfold numAt; rw [hx]; rfl⟩
  · exact ⟨3, .inr (.inr (.inr rfl)), rfl, by unfold numAt; rw [hx]; rfl⟩
set_option maxHeartbeats 1600000 in
theorem spec_l7Number_calls (v : Value) (xs : List ByteArray) (i : Nat) (w : World) (hr : RdW w (.s xs.length (xs.flatMap eStr)) v) (hk : okNum xs i) (hi : i ≤ 100) :
    Calls Try.prog 115 #[v, .int .i64 i] w fun e w' => e = .returned (.int .i64 (numAt xs i)) ∧ Below w.heap.size w w' := by
  obtain ⟨A, c, rfl, ⟨_, _, hl⟩⟩ := hr.slice
  by_cases hlt : i < xs.length
  · obtain ⟨s, hs⟩ : ∃ s, xs[i]? = some s := ⟨_, List.getElem?_eq_getElem hlt⟩
    obtain ⟨n, hn, rfl, hnum⟩ := D4_of hk hs
    obtain ⟨ad, rfl, hab, h0⟩ := row_eStr hr hs
    have HE := Lib.hid hnum
    have hab' : (ad.add i).block < w.heap.size := by rw [block_of_add]; exact hab
    clear hr hs hk hnum
    go_enter Try.func115, Try.ntmps115
    go_wp2_with fail
    refine (spec_ParseInt_calls n hn _).mono ?_
    rintro e w2 ⟨rfl, hb⟩
    have HB := Lib.hid hb
    clear hb
    go_wp2
    go_ret
    exact ⟨by rw [HE.out]; rfl, HB.out⟩
  · have HE : Hid (numAt xs i = -1) := by unfold Hid numAt; rw [List.getElem?_eq_none (by omega)]
    have hle : (xs.length : Int) ≤ i := by omega
    clear hr hk
    go_enter Try.func115, Try.ntmps115
    go_wp2
    go_ret
    exact ⟨by rw [HE.out]; rfl, Below.refl _ _⟩

end Go.Proofs.Ytiohoeafdaihpaa
namespace Go.Proofs.Ytiohoeafdaihpaa
open Go.RowKit
set_option linter.unusedVariables false
set_option linter.unusedSimpArgs false

/-- the pieces of a text from place i on, the present one began at f -/
def cuts (s : ByteArray) (b : UInt8) : Nat → Nat → Nat → List ByteArray
  | 0, _, _ => []
  | fuel + 1, i, f => if i = s.size ∨ s.data[i]? = some b then s.extract f i :: cuts s b fuel (i + 1) (i + 1) else cuts s b fuel (i + 1) f
def splitB (s : ByteArray) (b : UInt8) : List ByteArray := cuts s b (s.size + 1) 0 0
theorem cuts_hit {s : ByteArray} {b : UInt8} {i f : Nat} (hi : i ≤ s.size) (h : i = s.size ∨ s.data[i]? = some b) : cuts s b (s.size + 1 - i) i f = s.extract f i :: cuts s b (s.size + 1 - (i + 1)) (i + 1) (i + 1) := by
  rw [show s.size + 1 - i = (s.size + 1 - (i + 1)) + 1 from by omega, cuts, if_pos h]
theorem cuts_miss {s : ByteArray} {b : UInt8} {i f : Nat} (hi : i ≤ s.size) (h : ¬ (i = s.size ∨ s.data[i]? = some b)) : cuts s b (s.size + 1 - i) i f = cuts s b (s.size + 1 - (i + 1)) (i + 1) f := by
  rw [show s.size + 1 - i = (s.size + 1 - (i + 1)) + 1 from by omega, cuts, if_neg h]
theorem byte_some {s : ByteArray} {i : Nat} (h : i < s.size) : s.data[i]? = some s[i] := by
  rw [Array.getElem?_eq_getElem (by simpa using h)]; rfl
set_option maxHeartbeats 6400000 in
set_option maxRecDepth 100000 in
theorem spec_l7Split_calls (s : ByteArray) (b : UInt8) (w : World) (hs : s.size ≤ 1048576) :
    Calls Try.prog 105 #[.string s, .int .u8 b.toNat] w fun e w' => ∃ A c, e = .returned (.slice A (splitB s b).length c) ∧ RdW w' (.s (splitB s b).length ((splitB s b).flatMap eStr)) (.slice A (splitB s b).length c) ∧ Below w.heap.size w w' := by
  go_enter Try.func105, Try.ntmps105
  go_wp2
  go_loopw [5, 6, 7] (fun a d_ e_ wr => ∃ (i f : Nat) (xs : List ByteArray) (A : Option Addr) (c : Nat), a = .slice A xs.length c ∧ d_ = .int .i64 f ∧ e_ = .int .i64 i ∧ i ≤ s.size + 1 ∧ f ≤ i ∧ xs.length ≤ i ∧ Hid (xs ++ cuts s b (s.size + 1 - i) i f = splitB s b) ∧ Hid (wr.ownsRow w.heap.size 9 1 (.slice A xs.length c) xs.length (xs.flatMap vsStr)) ∧ Hid (Below w.heap.size w wr)) (fun a d_ e_ wr => s.size + 2 - (intOf e_).toNat)
  case atStart => exact ⟨0, 0, [], _, _, rfl, rfl, rfl, by omega, by omega, by simp, rfl, ownsRow_made' rfl (Nat.le_refl _), (Below.refl _ _).alloc (Nat.le_refl _) _⟩
  case round =>
    obtain ⟨i, f, xs, A, c, rfl, rfl, rfl, hi, hf, hx, HC, HO, HB⟩ := hrel
    have zr := HB.out.size
    have hlo := HO.out.lt
    by_cases hlt : i ≤ s.size
    · have hle : (i : Int) ≤ s.size := by omega
      have hfi : (f : Int) ≤ i := by omega
      by_cases he : i = s.size
      · have HC2 : Hid ((xs ++ [s.extract f i]) ++ cuts s b (s.size + 1 - (i + 1)) (i + 1) (i + 1) = splitB s b) := by
          unfold Hid; rw [List.append_assoc, List.singleton_append, ← cuts_hit hlt (.inl he)]; exact HC.out
        subst he
        go_wp2_with (at_builtin; refine wpList_append_rd rfl _ _ 53 rfl (w.heap.size) 9 _ _ 1 16 Try.underlying53 rfl rfl rfl rfl rfl (by omega) _ xs.length _ rfl (HO.out.alloc _) vals_eStr [s.extract f s.size] (one_eStr _) (lenv_eStr _) _ _ rfl (rdW_one vals_eStr wr (s.extract f s.size) 9) (by simp; omega) (by omega) (by simp; omega) ?_)
        intro A2 c2 w4 hown hgrow
        have HB4 := Lib.hid ((HB.out.alloc zr _).trans (grown_below hgrow (by simp; omega) (fun k hk => (hlo k hk).1)))
        have HO4 : Hid (w4.ownsRow w.heap.size 9 1 (.slice A2 (xs ++ [s.extract f s.size]).length c2) (xs ++ [s.extract f s.size]).length ((xs ++ [s.extract f s.size]).flatMap vsStr)) := by
          unfold Hid; rw [List.flatMap_append, List.length_append]; exact hown
        have HL4 : Hid ((xs ++ [s.extract f s.size]).length = xs.length + 1) := by unfold Hid; rw [List.length_append]; rfl
        clear hown hgrow hlo
        go_wp2
        go_roundw
        case rel => exact ⟨s.size + 1, s.size + 1, xs ++ [s.extract f s.size], A2, c2, by rw [HL4.out], by go_num, by go_num, by omega, by omega, by rw [HL4.out]; omega, HC2, HO4, HB4⟩
        case measure => (simp [intOf] <;> omega)
      · have hlt2 : i < s.size := by omega
        have hilt : (i : Int) < s.size := by omega
        have hine : ¬ (i : Int) = s.size := by omega
        by_cases hb : s[i] = b
        · have HC2 : Hid ((xs ++ [s.extract f i]) ++ cuts s b (s.size + 1 - (i + 1)) (i + 1) (i + 1) = splitB s b) := by
            unfold Hid; rw [List.append_assoc, List.singleton_append, ← cuts_hit hlt (.inr (by rw [byte_some hlt2, hb]))]; exact HC.out
          have hbq : ((s[i].toNat : Int) == (b.toNat : Int)) = true := by rw [hb]; exact beq_self_eq_true _
          go_wp2_with (at_builtin; refine wpList_append_rd rfl _ _ 53 rfl (w.heap.size) 9 _ _ 1 16 Try.underlying53 rfl rfl rfl rfl rfl (by omega) _ xs.length _ rfl (HO.out.alloc _) vals_eStr [s.extract f i] (one_eStr _) (lenv_eStr _) _ _ rfl (rdW_one vals_eStr wr (s.extract f i) 9) (by simp; omega) (by omega) (by simp; omega) ?_)
          intro A2 c2 w4 hown hgrow
          have HB4 := Lib.hid ((HB.out.alloc zr _).trans (grown_below hgrow (by simp; omega) (fun k hk => (hlo k hk).1)))
          have HO4 : Hid (w4.ownsRow w.heap.size 9 1 (.slice A2 (xs ++ [s.extract f i]).length c2) (xs ++ [s.extract f i]).length ((xs ++ [s.extract f i]).flatMap vsStr)) := by
            unfold Hid; rw [List.flatMap_append, List.length_append]; exact hown
          have HL4 : Hid ((xs ++ [s.extract f i]).length = xs.length + 1) := by unfold Hid; rw [List.length_append]; rfl
          clear hown hgrow hlo
          go_wp2
          go_roundw
          case rel => exact ⟨i + 1, i + 1, xs ++ [s.extract f i], A2, c2, by rw [HL4.out], by go_num, by go_num, by omega, by omega, by rw [HL4.out]; omega, HC2, HO4, HB4⟩
          case measure => (simp [intOf] <;> omega)
        · have HC2 : Hid (xs ++ cuts s b (s.size + 1 - (i + 1)) (i + 1) f = splitB s b) := by
            unfold Hid; rw [← cuts_miss hlt (by rw [byte_some hlt2]; rintro (h | h); exact he h; injection h with h; exact hb h)]; exact HC.out
          have hbq : ((s[i].toNat : Int) == (b.toNat : Int)) = false := by
            simp only [beq_eq_false_iff_ne, ne_eq]
            intro h
            exact hb (UInt8.toNat_inj.1 (by omega))
          go_wp2
          go_roundw
          case rel => exact ⟨i + 1, f, xs, A, c, rfl, rfl, by go_num, by omega, by omega, by omega, HC2, HO, HB⟩
          case measure => (simp [intOf] <;> omega)
    · have hie : i = s.size + 1 := by omega
      subst hie
      have hgt : ¬ ((s.size : Int) + 1 ≤ s.size) := by omega
      have hE : xs = splitB s b := by
        have h := HC.out
        rw [Nat.sub_self, cuts, List.append_nil] at h
        exact h
      go_wp2
      go_ret
      have hO := HO.out
      subst hE
      exact ⟨A, c, rfl, ownsRow_rdw vals_eStr hO (by omega), HB.out⟩

end Go.Proofs.Ytiohoeafdaihpaa
