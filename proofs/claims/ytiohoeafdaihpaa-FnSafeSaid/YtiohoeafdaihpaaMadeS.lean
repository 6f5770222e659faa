import Derived.Test.YtiohoeafdaihpaaProg
import Derived.Test.YtiohoeafdaihpaaTypes
import Derived.StillTailTactics
import Derived.Deep.RegionHeld3
import Derived.Laws.IdiomStrings
import Derived.Test.YtiohoeafdaihpaaAppend
import Derived.Laws.StructEq
import Derived.Lib.SliceRun
import Derived.Shelf.RegionOpenPlain
import Derived.Test.YtiohoeafdaihpaaPureMade
namespace Go.Proofs.Ytiohoeafdaihpaa
open Go.RowKit
set_option linter.unusedVariables false
set_option linter.unusedSimpArgs false

set_option maxHeartbeats 12800000 in
set_option maxRecDepth 100000 in
theorem spec_MadeBy_calls (us : List Value) (x : GScript) (w : World) (hr : RdLW w (eScript x) us) (hz : sizL (eScript x) ≤ 1048576) :
    Calls Try.prog 25 #[.agg us.toArray] w fun e w' => ∃ v', e = .returned v' ∧ RdW w' (.s (madeBy x).length ((madeBy x).flatMap eStr)) v' ∧ Below w.heap.size w w' := by
  rw [siz_eScript] at hz
  obtain ⟨v1, rfl, h1⟩ := rd_eScript hr
  obtain ⟨A, c, rfl, ⟨_, _, hl⟩⟩ := h1.slice
  have HR := Lib.hid h1
  clear hr h1
  have HB0 := Lib.hid (((Below.refl w.heap.size w).alloc (Nat.le_refl _) (.cells #[.string x.Name, .slice A x.Methods.length c] 51)).alloc (by simp) (.cells #[] 9))
  go_enter Try.func25, Try.ntmps25
  go_wp2
  go_loopw [3, 4] (fun a b wr => ∃ (i : Nat) (A' : Option Addr) (n c' : Nat), i ≤ x.Methods.length ∧ b = .int .i64 i ∧ a = .slice A' n c' ∧ n ≤ 1048576 ∧ Hid (n = (madeTo x i).length) ∧ Hid (wr.ownsRow (w.heap.size + 1) 9 1 (.slice A' n c') n ((madeTo x i).flatMap vsStr)) ∧ Hid (Below w.heap.size w wr) ∧ Hid (Blk wr w.heap.size 51 #[.string x.Name, .slice A x.Methods.length c])) (fun a b wr => x.Methods.length - (intOf b).toNat)
  case atStart => exact ⟨0, _, _, _, by omega, rfl, rfl, by omega, rfl, ownsRow_made' (by simp) (by simp), HB0, (Blk.new _ _ _).alloc _⟩
  case round =>
    obtain ⟨i, A', n, c', hi, rfl, rfl, hn, HN, HO, HB, HK⟩ := hrel
    obtain ⟨kb, kf⟩ := HK.out.rules
    have hbl := HK.out.lt
    by_cases hlt : i < x.Methods.length
    · obtain ⟨m, hm⟩ : ∃ m, x.Methods[i]? = some m := ⟨x.Methods[i], List.getElem?_eq_getElem hlt⟩
      obtain ⟨ad, vm, rfl, hab, g0, g1, qm⟩ := row_eMethod HR.out hm
      obtain ⟨Am, cm, rfl, ⟨_, _, hlm⟩⟩ := qm.slice
      have hab' : (ad.add (i * 2)).block < w.heap.size := by rw [block_of_add]; exact hab
      have hbr : (ad.add (i * 2)).block < wr.heap.size := by have := HB.out.size; omega
      have r0 := (HB.out.cell hab').trans g0
      have r1 := (HB.out.cell (p := ⟨(ad.add (i * 2)).block, (ad.add (i * 2)).off + 1, none⟩) hab').trans g1
      have G0 := Lib.hid g0
      have G1 := Lib.hid g1
      have QM := Lib.hid qm
      have HM := Lib.hid hm
      have hlen := fun k => madeIn_len hm k
      have HLEN := Lib.hid hlen
      clear hm g0 g1 qm hlen
      go_wp2
      go_loopw [3, 5] (fun a b wr => ∃ (k : Nat) (A' : Option Addr) (n c' : Nat), k ≤ m.Code.length ∧ b = .int .i64 k ∧ a = .slice A' n c' ∧ n ≤ 1048576 ∧ Hid (n = (madeIn x i m k).length) ∧ Hid (wr.ownsRow (w.heap.size + 1) 9 1 (.slice A' n c') n ((madeIn x i m k).flatMap vsStr)) ∧ Hid (Below w.heap.size w wr) ∧ Hid (Blk wr w.heap.size 51 #[.string x.Name, .slice (some ad) x.Methods.length c])) (fun a b wr => m.Code.length - (intOf b).toNat)
      case atStart => exact ⟨0, _, _, _, by omega, rfl, rfl, hn, by unfold Hid; rw [madeIn_zero]; exact HN.out, (by unfold Hid; rw [madeIn_zero]; exact HO.out), HB, HK⟩
      case round =>
        obtain ⟨k, A2, n2, c2, hk, rfl, rfl, hn2, HN2, HOI, HBI, HKI⟩ := hrel
        have hloI := HOI.out.lt
        obtain ⟨kb, kf⟩ := HKI.out.rules
        have hbl := HKI.out.lt
        have hbi : (ad.add (i * 2)).block < wr.heap.size := by have := HBI.out.size; omega
        have s0 := (HBI.out.cell hab').trans G0.out
        have s1 := (HBI.out.cell (p := ⟨(ad.add (i * 2)).block, (ad.add (i * 2)).off + 1, none⟩) hab').trans G1.out
        by_cases hkl : k < m.Code.length
        · obtain ⟨y, hy⟩ : ∃ y, m.Code[k]? = some y := ⟨m.Code[k], List.getElem?_eq_getElem hkl⟩
          obtain ⟨ac, rfl, hac, t0, t1, t2, t3, t4, t5⟩ := row_eInstr (QM.out.below HBI.out) hy
          have hac' : (ac.add (k * 6)).block < wr.heap.size := by rw [block_of_add]; exact hac
          have HS := Lib.hid (madeIn_step (s := x) (i := i) hy)
          clear hy
          have hlk := HLEN.out (k + 1)
          by_cases e1 : ¬ y.Op = 7
          · have HA : Hid (madeIn x i m (k + 1) = madeIn x i m k) := by unfold Hid; rw [HS.out, addName_no e1]
            go_wp2
            go_roundw
            case rel => exact ⟨k + 1, A2, n2, c2, by omega, by go_num, rfl, hn2, by unfold Hid; rw [HA.out]; exact HN2.out, by unfold Hid; rw [HA.out]; exact HOI.out.alloc _, HBI.out.alloc HBI.out.size _, HKI.out.alloc _⟩
            case measure => simp [intOf]; omega
          replace e1 := Classical.not_not.1 e1
          go_wp2
          obtain ⟨wa, hwa⟩ : ∃ q, q = wr.alloc (.cells #[.int .i64 7, .int .i64 y.A, .int .i64 y.B, .int .i64 y.C, .int .i64 y.D, .string y.Name] 47) := ⟨_, rfl⟩
          rw [← hwa]
          have HOA : Hid (wa.ownsRow (w.heap.size + 1) 9 1 (.slice A2 n2 c2) n2 ((madeIn x i m k).flatMap vsStr)) := by unfold Hid; rw [hwa]; exact HOI.out.alloc _
          have HBA : Hid (Below w.heap.size w wa) := by unfold Hid; rw [hwa]; exact HBI.out.alloc HBI.out.size _
          have HKA : Hid (Blk wa w.heap.size 51 #[.string x.Name, .slice (some ad) x.Methods.length c]) := by unfold Hid; rw [hwa]; exact HKI.out.alloc _
          have HKX : Hid (Blk wa wr.heap.size 47 #[.int .i64 7, .int .i64 y.A, .int .i64 y.B, .int .i64 y.C, .int .i64 y.D, .string y.Name]) := by unfold Hid; rw [hwa]; exact Blk.new _ _ _
          have hrd : Hid (RdW wa (.s (madeIn x i m k).length ((madeIn x i m k).flatMap eStr)) (.slice A2 n2 c2)) := by
            have h := HN2.out
            have h2 := HOA.out
            unfold Hid
            subst h
            exact ownsRow_rdw vals_eStr h2 (by omega)
          have hab9 : (ad.add (i * 2)).block < wa.heap.size := by have := HBA.out.size; omega
          clear hwa kb kf hbl
          go_loopw [7, 8] (fun a b wr => ∃ (j : Nat), j ≤ n2 ∧ b = .int .i64 j ∧ a = .bool (known ((madeIn x i m k).take j) y.Name) ∧ Hid (∃ q, wr = wa.drewN q)) (fun a b wr => n2 - (intOf b).toNat)
          case atStart => exact ⟨0, by omega, rfl, by simp [known], ⟨0, rfl⟩⟩
          case round =>
            obtain ⟨j, hj, rfl, rfl, HQ⟩ := hrel
            obtain ⟨q9, hq9⟩ := HQ.out
            subst hq9
            obtain ⟨kx, kxf⟩ := HKX.out.rules
            have hlx := HKX.out.lt
            by_cases hjl : j < n2
            · obtain ⟨z, hz1⟩ : ∃ z, (madeIn x i m k)[j]? = some z := ⟨(madeIn x i m k)[j]'(by have := HN2.out; omega), List.getElem?_eq_getElem _⟩
              have hrd2 := hrd.out
              rw [← HN2.out] at hrd2
              have hrd3 : RdW wa (.s (madeIn x i m k).length ((madeIn x i m k).flatMap eStr)) (.slice A2 (madeIn x i m k).length c2) := by rw [← HN2.out]; exact hrd2
              obtain ⟨ao, hao, hbo, z0⟩ := row_eStr hrd3 hz1
              subst hao
              have hbo' : (ao.add j).block < wa.heap.size := by rw [block_of_add]; exact hbo
              have HZ := Lib.hid (known_step (n := y.Name) hz1)
              clear hz1 hrd2 hrd3
              cases hkj : known ((madeIn x i m k).take j) y.Name with
              | true =>
                have hnext : known ((madeIn x i m k).take (j + 1)) y.Name = true := by rw [HZ.out, hkj]; rfl
                go_wp2
                go_quiet (fail)
                go_wp2
                go_roundw
                case rel => exact ⟨j + 1, by omega, by go_num, by rw [hnext], ⟨q9 + nq, rfl⟩⟩
                case measure => simp [intOf]; omega
              | false =>
                have hnext : known ((madeIn x i m k).take (j + 1)) y.Name = (z.toList == y.Name.toList) := by rw [HZ.out, hkj]; rfl
                go_wp2
                go_quiet (fail)
                go_wp2
                go_roundw
                case rel => exact ⟨j + 1, by omega, by go_num, by rw [hnext], ⟨q9 + nq, rfl⟩⟩
                case measure => simp [intOf]; omega
            · have : j = n2 := by omega
              subst this
              have HT : Hid ((madeIn x i m k).take j = madeIn x i m k) := by unfold Hid; rw [HN2.out, List.take_length]
              rw [HT.out]
              have HOI : Hid ((wa.drewN q9).ownsRow (w.heap.size + 1) 9 1 (.slice A2 j c2) j ((madeIn x i m k).flatMap vsStr)) := HOA.out
              have HBI : Hid (Below w.heap.size w (wa.drewN q9)) := Lib.hid (belowN HBA.out _)
              have HKI : Hid (Blk (wa.drewN q9) w.heap.size 51 #[.string x.Name, .slice (some ad) x.Methods.length c]) := HKA.out
              have HKX2 : Hid (Blk (wa.drewN q9) _ _ _) := HKX
              obtain ⟨wd, hwd⟩ : ∃ q, q = wa.drewN q9 := ⟨_, rfl⟩
              rw [← hwd] at HOI HBI HKI HKX2
              rw [← hwd]
              have hloI := HOI.out.lt
              obtain ⟨ky, kyf⟩ := HKX2.out.rules
              have hly := HKX2.out.lt
              clear kx kxf hlx hwd
              cases hkn : known (madeIn x i m k) y.Name with
              | true =>
                have HA : Hid (madeIn x i m (k + 1) = madeIn x i m k) := by unfold Hid; rw [HS.out, addName_known hkn]
                go_wp2
                go_roundw
                case rel => exact ⟨k + 1, A2, j, c2, by omega, by go_num, rfl, hn2, by unfold Hid; rw [HA.out]; exact HN2.out, by unfold Hid; rw [HA.out]; exact HOI.out, HBI, HKI⟩
                case measure => simp [intOf]; omega
              | false =>
                have HKN := Lib.hid hkn
                have HA : Hid (madeIn x i m (k + 1) = madeIn x i m k ++ [y.Name]) := by unfold Hid; rw [HS.out, addName_new e1 HKN.out]
                rw [HA.out, List.length_append, ← HN2.out] at hlk
                have hlk2 : j + 1 ≤ 1048576 := by have h : j + 1 ≤ _ := hlk; omega
                clear hlk
                go_wp2_with (at_builtin; refine wpList_append_rd rfl _ _ 53 rfl (w.heap.size + 1) 9 _ _ 1 16 Try.underlying53 rfl rfl rfl rfl rfl (by omega) _ j _ rfl (HOI.out.alloc _) vals_eStr [y.Name] (one_eStr _) (lenv_eStr _) _ _ rfl (rdW_one vals_eStr wd y.Name 9) (by simp; omega) (by omega) (by have := HBI.out.size; simp; omega) ?_)
                intro A'' c'' w9 hown hgrow
                have HB9 := Lib.hid ((HBI.out.alloc HBI.out.size _).trans (grown_below hgrow (by have := HBI.out.size; simp; omega) (fun k hk => by have := (hloI k hk).1; omega)))
                have HK9 := Lib.hid ((HKI.out.alloc _).chg (grown_chg hgrow) (fun h => by have := (hloI _ h).1; omega))
                have HO9 : Hid (w9.ownsRow (w.heap.size + 1) 9 1 (.slice A'' (j + 1) c'') (j + 1) ((madeIn x i m (k + 1)).flatMap vsStr)) := by
                  unfold Hid; rw [HA.out, List.flatMap_append]; exact hown
                clear hown hgrow
                go_wp2
                go_roundw
                case rel => exact ⟨k + 1, A'', j + 1, c'', by omega, by go_num, rfl, hlk2, by unfold Hid; rw [HA.out, List.length_append, ← HN2.out]; rfl, HO9, HB9, HK9⟩
                case measure => simp [intOf]; omega
        · have : k = m.Code.length := by omega
          subst this
          have HT := Lib.hid (madeTo_step HM.out)
          go_wp2
          go_roundw
          case rel => exact ⟨i + 1, A2, n2, c2, by omega, by go_num, rfl, hn2, by unfold Hid; rw [HT.out]; exact HN2.out, by unfold Hid; rw [HT.out]; exact HOI.out, HBI, HKI⟩
          case measure => simp [intOf]; omega
    · have : i = x.Methods.length := by omega
      subst this
      go_wp2
      go_ret
      have hO := HO.out
      have hkk := HN.out
      subst hkk
      exact ⟨_, rfl, ownsRow_rdw (xs := madeTo x x.Methods.length) vals_eStr hO (by omega), HB.out⟩
end Go.Proofs.Ytiohoeafdaihpaa
