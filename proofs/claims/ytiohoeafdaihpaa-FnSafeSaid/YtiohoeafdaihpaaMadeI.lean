import Derived.Test.YtiohoeafdaihpaaProg
import Derived.Test.YtiohoeafdaihpaaTypes
import Derived.StillTailTactics
import Derived.Deep.RegionHeld3
import Derived.Laws.IdiomStrings
import Derived.Test.YtiohoeafdaihpaaAppend
import Derived.Laws.StructEq
import Derived.Lib.SliceRun
import Derived.Shelf.RegionOpenPlain
import Derived.Test.YtiohoeafdaihpaaPureMade
namespace Go.Proofs.Ytiohoeafdaihpaa
open Go.RowKit
set_option linter.unusedVariables false
set_option linter.unusedSimpArgs false

set_option maxHeartbeats 800000 in
theorem slices_Index_String_calls (v : Value) (xs : List ByteArray) (n : ByteArray) (w : World) (hr : RdW w (.s xs.length (xs.flatMap eStr)) v) :
    Calls Try.prog 92 #[v, .string n] w fun e w' => e = .returned (.int .i64 (idx (fun o : ByteArray => o.toList == n.toList) xs)) ∧ Below w.heap.size w w' := by
  obtain ⟨A, c, rfl, ⟨_, _, hl⟩⟩ := hr.slice
  have HR := Lib.hid hr
  clear hr
  go_enter Try.func92, Try.ntmps92
  go_wp2
  go_loopw [8] (fun a wr => ∃ i : Nat, i ≤ xs.length ∧ a = .int .i64 i ∧ Hid (Below w.heap.size w wr) ∧ Hid (∀ j y, j < i → xs[j]? = some y → (y.toList == n.toList) = false)) (fun a wr => xs.length - (intOf a).toNat)
  case atStart => exact ⟨0, by omega, rfl, Below.refl _ _, no_start⟩
  case round =>
    obtain ⟨i, hi, rfl, HB, hno⟩ := hrel
    by_cases hlt : i < xs.length
    · obtain ⟨x, hx⟩ : ∃ x, xs[i]? = some x := ⟨xs[i], List.getElem?_eq_getElem hlt⟩
      obtain ⟨ad, rfl, hadb, h0⟩ := row_eStr (HR.out.below HB.out) hx
      have hbl : (ad.add i).block < wr.heap.size := by rw [block_of_add]; exact hadb
      have HX := Lib.hid hx
      clear hx
      cases hq : (x.toList == n.toList) with
      | true =>
        have hq2 : (n.toList == x.toList) = true := by rw [BEq.comm]; exact hq
        have HE := Lib.hid (idx_hit (p := fun o : ByteArray => o.toList == n.toList) HX.out hq hno.out)
        go_wp2
        go_ret
        exact ⟨by rw [HE.out]; rfl, HB.out⟩
      | false =>
        have hq2 : (n.toList == x.toList) = false := by rw [BEq.comm]; exact hq
        have HN := Lib.hid (step_no (p := fun y : ByteArray => (y.toList == n.toList) = false) hno.out HX.out hq)
        go_wp2
        go_roundw
        case rel => exact ⟨i + 1, by omega, by go_num, HB.out, HN⟩
        case measure => simp [intOf]; omega
    · have : i = xs.length := by omega
      subst this
      have HE := Lib.hid (idx_miss (all_of (p := fun y : ByteArray => (y.toList == n.toList) = false) hno.out))
      go_wp2
      go_ret
      exact ⟨by rw [HE.out]; rfl, HB.out⟩
set_option maxHeartbeats 800000 in
theorem slices_Contains_String_calls (v : Value) (xs : List ByteArray) (n : ByteArray) (w : World) (hr : RdW w (.s xs.length (xs.flatMap eStr)) v) :
    Calls Try.prog 59 #[v, .string n] w fun e w' => e = .returned (.bool (known xs n)) ∧ Below w.heap.size w w' := by
  have hcon := slices_Index_String_calls v xs n w hr
  obtain ⟨A, c, rfl, _⟩ := hr.slice
  have HE := Lib.hid (idx_any (fun o : ByteArray => o.toList == n.toList) xs)
  clear hr
  generalize idx (fun o : ByteArray => o.toList == n.toList) xs = r at hcon HE
  go_enter Try.func59, Try.ntmps59
  go_wp2_with fail
  refine hcon.mono ?_
  rintro e w' ⟨rfl, hb'⟩
  go_wp2
  go_ret
  exact ⟨by rw [show known xs n = _ from HE.out.symm]; rfl, hb'⟩
set_option maxHeartbeats 12800000 in
set_option maxRecDepth 100000 in
theorem impl_MadeBy_calls (us : List Value) (x : GScript) (w : World) (hr : RdLW w (eScript x) us) (hz : sizL (eScript x) ≤ 1048576) :
    Calls Try.prog 23 #[.agg us.toArray] w fun e w' => ∃ v' fp, e = .returned v' ∧ Own w' (.s (madeBy x).length ((madeBy x).flatMap eStr)) v' fp ∧ Fresh w fp ∧ Below w.heap.size w w' := by
  rw [siz_eScript] at hz
  obtain ⟨v1, rfl, h1⟩ := rd_eScript hr
  obtain ⟨A, c, rfl, ⟨_, _, hl⟩⟩ := h1.slice
  have HR := Lib.hid h1
  clear hr h1
  have HB0 := Lib.hid (((Below.refl w.heap.size w).alloc (Nat.le_refl _) (.cells #[.string x.Name, .slice A x.Methods.length c] 51)).alloc (by simp) (.cells #[] 9))
  go_enter Try.func23, Try.ntmps23
  go_wp2
  go_loopw [3, 12] (fun a b wr => ∃ (i : Nat) (A' : Option Addr) (n c' : Nat), i ≤ x.Methods.length ∧ b = .int .i64 i ∧ a = .slice A' n c' ∧ n ≤ 1048576 ∧ Hid (n = (madeTo x i).length) ∧ Hid (wr.ownsRow (w.heap.size + 1) 9 1 (.slice A' n c') n ((madeTo x i).flatMap vsStr)) ∧ Hid (Below w.heap.size w wr)) (fun a b wr => x.Methods.length - (intOf b).toNat)
  case atStart => exact ⟨0, _, _, _, by omega, rfl, rfl, by omega, rfl, ownsRow_made' (by simp) (by simp), HB0⟩
  case round =>
    obtain ⟨i, A', n, c', hi, rfl, rfl, hn, HN, HO, HB⟩ := hrel
    by_cases hlt : i < x.Methods.length
    · obtain ⟨m, hm⟩ : ∃ m, x.Methods[i]? = some m := ⟨x.Methods[i], List.getElem?_eq_getElem hlt⟩
      obtain ⟨ad, vm, rfl, hab, g0, g1, qm⟩ := row_eMethod HR.out hm
      obtain ⟨Am, cm, rfl, ⟨_, _, hlm⟩⟩ := qm.slice
      have hab' : (ad.add (i * 2)).block < w.heap.size := by rw [block_of_add]; exact hab
      have hbr : (ad.add (i * 2)).block < wr.heap.size := by have := HB.out.size; omega
      have r0 := (HB.out.cell hab').trans g0
      have r1 := (HB.out.cell (p := ⟨(ad.add (i * 2)).block, (ad.add (i * 2)).off + 1, none⟩) hab').trans g1
      have G0 := Lib.hid g0
      have G1 := Lib.hid g1
      have QM := Lib.hid qm
      have HM := Lib.hid hm
      have hlen := fun k => madeIn_len hm k
      have HLEN := Lib.hid hlen
      clear hm g0 g1 qm hlen
      go_wp2
      go_loopw [3, 19] (fun a b wr => ∃ (k : Nat) (A' : Option Addr) (n c' : Nat), k ≤ m.Code.length ∧ b = .int .i64 k ∧ a = .slice A' n c' ∧ n ≤ 1048576 ∧ Hid (n = (madeIn x i m k).length) ∧ Hid (wr.ownsRow (w.heap.size + 1) 9 1 (.slice A' n c') n ((madeIn x i m k).flatMap vsStr)) ∧ Hid (Below w.heap.size w wr)) (fun a b wr => m.Code.length - (intOf b).toNat)
      case atStart => exact ⟨0, _, _, _, by omega, rfl, rfl, hn, by unfold Hid; rw [madeIn_zero]; exact HN.out, (by unfold Hid; rw [madeIn_zero]; exact HO.out.alloc _), HB.out.alloc HB.out.size _⟩
      case round =>
        obtain ⟨k, A2, n2, c2, hk, rfl, rfl, hn2, HN2, HOI, HBI⟩ := hrel
        have hloI := HOI.out.lt
        have hbi : (ad.add (i * 2)).block < wr.heap.size := by have := HBI.out.size; omega
        have s0 := (HBI.out.cell hab').trans G0.out
        have s1 := (HBI.out.cell (p := ⟨(ad.add (i * 2)).block, (ad.add (i * 2)).off + 1, none⟩) hab').trans G1.out
        by_cases hkl : k < m.Code.length
        · obtain ⟨y, hy⟩ : ∃ y, m.Code[k]? = some y := ⟨m.Code[k], List.getElem?_eq_getElem hkl⟩
          obtain ⟨ac, rfl, hac, t0, t1, t2, t3, t4, t5⟩ := row_eInstr (QM.out.below HBI.out) hy
          have hac' : (ac.add (k * 6)).block < wr.heap.size := by rw [block_of_add]; exact hac
          have HS := Lib.hid (madeIn_step (s := x) (i := i) hy)
          clear hy
          have hlk := HLEN.out (k + 1)
          by_cases e1 : ¬ y.Op = 7
          · have HA : Hid (madeIn x i m (k + 1) = madeIn x i m k) := by unfold Hid; rw [HS.out, addName_no e1]
            go_wp2
            go_roundw
            case rel => exact ⟨k + 1, A2, n2, c2, by omega, by go_num, rfl, hn2, by unfold Hid; rw [HA.out]; exact HN2.out, by unfold Hid; rw [HA.out]; exact HOI.out.alloc _, HBI.out.alloc HBI.out.size _⟩
            case measure => simp [intOf]; omega
          replace e1 := Classical.not_not.1 e1
          have hrd : RdW wr (.s (madeIn x i m k).length ((madeIn x i m k).flatMap eStr)) (.slice A2 n2 c2) := by
            have h := HN2.out
            have h2 := HOI.out
            subst h
            exact ownsRow_rdw vals_eStr h2 (by omega)
          have HC := Lib.hid (slices_Contains_String_calls _ (madeIn x i m k) y.Name (wr.alloc (.cells #[.int .i64 7, .int .i64 y.A, .int .i64 y.B, .int .i64 y.C, .int .i64 y.D, .string y.Name] 47)) (hrd.below ((Below.refl _ _).alloc (Nat.le_refl _) _)))
          clear hrd
          cases hkn : known (madeIn x i m k) y.Name with
          | true =>
            rw [hkn] at HC
            have HA : Hid (madeIn x i m (k + 1) = madeIn x i m k) := by unfold Hid; rw [HS.out, addName_known hkn]
            go_wp2_with fail
            refine HC.out.mono ?_
            rintro e w1 ⟨rfl, hb1⟩
            have HO1 := Lib.hid (ownsRow_below (HOI.out.alloc _) hb1)
            have HB1 := Lib.hid ((HBI.out.alloc HBI.out.size _).trans (hb1.mono (by have := HBI.out.size; simp only [size_alloc]; omega)))
            clear hb1
            go_wp2
            go_roundw
            case rel => exact ⟨k + 1, A2, n2, c2, by omega, by go_num, rfl, hn2, by unfold Hid; rw [HA.out]; exact HN2.out, by unfold Hid; rw [HA.out]; exact HO1.out, HB1⟩
            case measure => simp [intOf]; omega
          | false =>
            rw [hkn] at HC
            have HKN := Lib.hid hkn
            have HA : Hid (madeIn x i m (k + 1) = madeIn x i m k ++ [y.Name]) := by unfold Hid; rw [HS.out, addName_new e1 HKN.out]
            rw [HA.out, List.length_append, ← HN2.out] at hlk
            have hlk2 : n2 + 1 ≤ 1048576 := by have h : n2 + 1 ≤ _ := hlk; omega
            clear hlk
            go_wp2_with (first | (refine HC.out.mono ?_; rintro e w1 ⟨rfl, hb1⟩; have HO1 := Lib.hid (ownsRow_below (HOI.out.alloc _) hb1); have HB1 := Lib.hid ((HBI.out.alloc HBI.out.size _).trans (hb1.mono (by have := HBI.out.size; simp only [size_alloc]; omega))); have HKX := Lib.hid ((Blk.new wr 47 #[.int .i64 7, .int .i64 y.A, .int .i64 y.B, .int .i64 y.C, .int .i64 y.D, .string y.Name]).below hb1); clear hb1; obtain ⟨kx, kxf⟩ := HKX.out.rules; have hlx := HKX.out.lt) | (at_builtin; refine wpList_append_rd rfl _ _ 53 rfl (w.heap.size + 1) 9 _ _ 1 16 Try.underlying53 rfl rfl rfl rfl rfl (by omega) _ n2 _ rfl (HO1.out.alloc _) vals_eStr [y.Name] (one_eStr _) (lenv_eStr _) _ _ rfl (rdW_one vals_eStr w1 y.Name 9) (by simp; omega) (by omega) (by have := HB1.out.size; simp; omega) ?_))
            intro A'' c'' w9 hown hgrow
            have HB9 := Lib.hid ((HB1.out.alloc HB1.out.size _).trans (grown_below hgrow (by have := HB1.out.size; simp; omega) (fun k hk => by have := (HO1.out.lt k hk).1; omega)))
            have HO9 : Hid (w9.ownsRow (w.heap.size + 1) 9 1 (.slice A'' (n2 + 1) c'') (n2 + 1) ((madeIn x i m (k + 1)).flatMap vsStr)) := by
              unfold Hid; rw [HA.out, List.flatMap_append]; exact hown
            clear hown hgrow
            go_wp2
            go_roundw
            case rel => exact ⟨k + 1, A'', n2 + 1, c'', by omega, by go_num, rfl, hlk2, by unfold Hid; rw [HA.out, List.length_append, ← HN2.out]; rfl, HO9, HB9⟩
            case measure => simp [intOf]; omega
        · have : k = m.Code.length := by omega
          subst this
          have HT := Lib.hid (madeTo_step HM.out)
          go_wp2
          go_roundw
          case rel => exact ⟨i + 1, A2, n2, c2, by omega, by go_num, rfl, hn2, by unfold Hid; rw [HT.out]; exact HN2.out, by unfold Hid; rw [HT.out]; exact HOI.out, HBI⟩
          case measure => simp [intOf]; omega
    · have : i = x.Methods.length := by omega
      subst this
      go_wp2
      go_ret
      have hO := HO.out
      have hkk := HN.out
      subst hkk
      obtain ⟨fp, ho', hn', hge⟩ := ownRow_own (xs := madeTo x x.Methods.length) vals_eStr hO (by omega)
      exact ⟨_, fp, rfl, ho', ⟨hn', fun g hg => by have := hge g hg; omega⟩, HB.out⟩

end Go.Proofs.Ytiohoeafdaihpaa
