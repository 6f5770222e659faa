import Derived.Deep.CutRange
import Derived.Test.YtjfaklbccbofpaaProg
import Derived.Test.YtjfaklbccbofpaaTypes
import Derived.StillTailTactics
import Derived.Deep.RegionHeld3
import Derived.Laws.IdiomStrings
import Derived.Test.YtjfaklbccbofpaaAppend
import Derived.Laws.StructEq
import Derived.Lib.SliceRun
import Derived.Shelf.RegionOpenPlain
import Derived.Test.YtjfaklbccbofpaaHelpM
import Derived.Test.YtjfaklbccbofpaaVat
import Derived.Test.YtjfaklbccbofpaaVat2
import Derived.Test.YtjfaklbccbofpaaOrders
namespace Go.Proofs.Ytjfaklbccbofpaa
open Go.RowKit
set_option linter.unusedVariables false
set_option linter.unusedSimpArgs false

set_option maxHeartbeats 12800000 in
set_option maxRecDepth 100000 in
theorem FnExactLook_calls (w : World) (usaV : List Value) (aV : GVat) (raV : RdLW w (eVat aV) usaV) (taV : StrOkL (eVat aV)) (usaX : List Value) (aX : GValue) (raX : RdLW w (eValue aX) usaX) :
    Calls Try.prog 3 #[.agg usaV.toArray, .agg usaX.toArray] w fun e w' => e = .returned (.bool true) ∧ Below w.heap.size w w' := by
  have ARaV := Lib.hid raV
  obtain ⟨v1aV, v2aV, v3aV, v4aV, rfl, -, -, -, -⟩ := rd_eVat raV
  clear raV
  have TSaV := Lib.hid taV
  clear taV
  have ARaX := Lib.hid raX
  obtain rfl := rd_eValue raX
  clear raX
  go_enter Try.func3, Try.ntmps3
  go_wp2_with fail
  refine (szVat_calls _ aV _ _ (ARaV.out.below (((Below.refl _ _).alloc (Nat.le_refl _) _).alloc (by (try simp only [size_alloc]); omega) _)) TSaV.out (by omega) (by omega)).mono ?_
  rintro e w1 ⟨r1, rfl, hr1, hb1⟩
  have NB1 : Below w.heap.size w w1 := ((((Below.refl _ _).alloc (Nat.le_refl _) _).alloc (by (try simp only [size_alloc]); omega) _)).trans (hb1.mono (by (try simp only [size_alloc]); omega))
  have BB0_1 := Lib.hid (NB1)
  have sz1 : w.heap.size + 2 ≤ w1.heap.size := by have h := hb1.size; (try simp only [size_alloc] at h); omega
  have KBaV_1 : Hid (Blk w1 (w.heap.size) 27 #[.int .i64 aV.Id, v1aV, v2aV, v3aV, v4aV]) := Lib.hid (((Blk.made rfl).alloc _).below hb1)
  have KBaX_1 : Hid (Blk w1 (w.heap.size + 1) 29 #[.int .i64 aX.Kind, .int .i64 aX.N]) := Lib.hid ((Blk.made (by simp only [size_alloc])).below hb1)
  obtain ⟨kcBaV_1, kfBaV_1⟩ := KBaV_1.out.rules
  have klBaV_1 := KBaV_1.out.lt
  obtain ⟨kcBaX_1, kfBaX_1⟩ := KBaX_1.out.rules
  have klBaX_1 := KBaX_1.out.lt
  clear hb1 NB1
  rcases hr1 with rfl | ⟨hr1, hr1_0⟩
  · go_wp2
    go_ret
    exact ⟨rfl, BB0_1.out⟩
  have hszaV : sizL (eVat aV) ≤ 1048576 := by omega
  have hr1_9 : r1 ≤ 1048576 := by omega
  clear hr1
  obtain ⟨z0, hz0⟩ : ∃ z, z = (lookOf aV aX) := ⟨_, rfl⟩
  have HZ0 := Lib.hid hz0
  clear hz0
  go_wp2
  go_cut [6] from 14 to 18 (fun p_ wx => ∃ g : Nat, p_ = .pointer (some ⟨g, 0, none⟩) ∧ w1.heap.size ≤ g ∧ Below w1.heap.size w1 wx ∧ Blk wx g 31 #[.int .i64 z0.Kind, .int .i64 z0.N])
  case first =>
    refine wp_region_U (fun wq => Below w1.heap.size w1 wq ∧ Blk wq (w.heap.size) 27 #[.int .i64 aV.Id, v1aV, v2aV, v3aV, v4aV] ∧ Blk wq (w.heap.size + 1) 29 #[.int .i64 aX.Kind, .int .i64 aX.N]) [0, 1, 2, 3, 4, 5, 6] (by kernel_rfl) ?_
    have hH_ := (⟨(Below.refl w1.heap.size w1).drew, KBaV_1.out.drew, KBaX_1.out.drew⟩ : (fun wq => Below w1.heap.size w1 wq ∧ Blk wq (w.heap.size) 27 #[.int .i64 aV.Id, v1aV, v2aV, v3aV, v4aV] ∧ Blk wq (w.heap.size + 1) 29 #[.int .i64 aX.Kind, .int .i64 aX.N]) w1.drew)
    refine wpAnyU_take (i := 0) (v := ?_) rfl (by kernel_rfl) (by kernel_rfl) (by kernel_rfl) (by kernel_rfl) (fun _ _ _ h => h) (Or.inl ⟨by rfl, ?_⟩) hH_ ?_
    rotate_left
    · (intro w hSw; (obtain ⟨hb_, ha0, ha1⟩ := hSw; obtain ⟨kc0, kf0⟩ := ha0.rules; obtain ⟨kc1, kf1⟩ := ha1.rules; go_simp <;> with_reducible rfl))
    simp only [Act.put, List.setIfInBounds_toArray, List.set_cons_zero, List.set_cons_succ]
    refine wpAnyU_take (i := 2) (v := ?_) rfl (by kernel_rfl) (by kernel_rfl) (by kernel_rfl) (by kernel_rfl) (fun _ _ _ h => h) (Or.inl ⟨by rfl, ?_⟩) hH_ ?_
    rotate_left
    · (intro w hSw; (obtain ⟨hb_, ha0, ha1⟩ := hSw; obtain ⟨kc0, kf0⟩ := ha0.rules; obtain ⟨kc1, kf1⟩ := ha1.rules; go_simp <;> with_reducible rfl))
    simp only [Act.put, List.setIfInBounds_toArray, List.set_cons_zero, List.set_cons_succ]
    refine wpAnyU_two (i := 1) (j := 5) (by kernel_rfl) rfl rfl (fun K hK => ?_) (fun K hK => ?_)
    · skip
      go_simp
      refine (toVat_calls _ aV _ (ARaV.out.below (BB0_1.out.trans (hH_.1.mono BB0_1.out.size))) (by omega)).mono ?_
      rintro e wf2 ⟨uf2, fpf2, rfl, of2, ff2, hbf2⟩
      refine hK.out _ _ ?_ (fun hH1_ => ?_)
      · exact ⟨hH_.1.trans (hbf2.mono hH_.1.size), hH_.2.1.below hbf2, hH_.2.2.below hbf2⟩
      have RA0 := of2.rdw
      clear hK K hH_
      have hH_ := hH1_
      clear hH1_
      refine wpAnyU_two (i := 3) (j := 5) (by kernel_rfl) rfl rfl (fun K hK => ?_) (fun K hK => ?_)
      · skip
        go_simp
        refine (toValue_calls _ aX _ (ARaX.out.below (BB0_1.out.trans (hH_.1.mono BB0_1.out.size)))).mono ?_
        rintro e wf3 ⟨uf3, fpf3, rfl, of3, ff3, hbf3⟩
        refine hK.out _ _ ?_ (fun hH1_ => ?_)
        · exact ⟨hH_.1.trans (hbf3.mono hH_.1.size), hH_.2.1.below hbf3, hH_.2.2.below hbf3⟩
        replace RA0 := RA0.below hbf3
        have RA1 := of3.rdw
        clear hK K hH_
        have hH_ := hH1_
        clear hH1_
        refine wpAnyU_two (i := 4) (j := 5) (by kernel_rfl) rfl rfl (fun K hK => ?_) (fun K hK => ?_)
        · skip
          go_simp
          refine (spec_Look_calls _ aV _ aX _ RA0 RA1 (by omega)).mono ?_
          rintro e wf4 ⟨uf4, rfl, of4, hbf4⟩
          rw [← HZ0.out] at of4
          obtain rfl := rd_eValue of4
          refine hK.out _ _ ?_ (fun hH1_ => ?_)
          · exact ⟨hH_.1.trans (hbf4.mono hH_.1.size), hH_.2.1.below hbf4, hH_.2.2.below hbf4⟩
          replace RA0 := RA0.below hbf4
          replace RA1 := RA1.below hbf4
          clear hK K hH_
          have hH_ := hH1_
          clear hH1_
          refine wpAnyU_one (i := 5) (by kernel_rfl) rfl (fun K hK => ?_)
          go_simp
          refine hK.out _ _ ?_ (fun hH1_ => ?_)
          · exact ⟨hH_.1.alloc hH_.1.size _, hH_.2.1.alloc _, hH_.2.2.alloc _⟩
          have KD := Blk.new wf4 31 #[.int .i64 0, .int .i64 0]
          have hgD : w1.heap.size ≤ wf4.heap.size := hH_.1.size
          have HBp := hH_.1
          replace RA0 := RA0.below ((Below.refl _ wf4).alloc (Nat.le_refl _) (.cells #[.int .i64 0, .int .i64 0] 31))
          replace RA1 := RA1.below ((Below.refl _ wf4).alloc (Nat.le_refl _) (.cells #[.int .i64 0, .int .i64 0] 31))
          clear hK K hH_
          have hH_ := hH1_
          clear hH1_
          refine wpAnyU_one' (i := 6) (by kernel_rfl) rfl (by kernel_rfl) (fun K hK => ?_)
          obtain ⟨kD, jD⟩ := KD.rules
          have lD := KD.lt
          have HBf := hH_.1
          go_simp
          refine hK.out _ _ ?_
          clear hK K
          refine wpAnyU_done (by kernel_rfl) ?_ _
          go_wp2_with fail
          go_meet
          case rel => first | exact ⟨wf4.heap.size, rfl, hgD, HBp.alloc HBp.size _, Blk.new _ _ _⟩ | exact ⟨wf4.heap.size, rfl, hgD, ((HBf.setCell (p := ⟨wf4.heap.size, 0, none⟩) hgD _).setCell (p := ⟨wf4.heap.size, 1, none⟩) hgD _), Blk.eq ((KD.set_ 0 _).set_ 1 _) (by simp)⟩
        · skip
          go_simp
          refine hK.out _ _ ?_ (fun hH1_ => ?_)
          · exact ⟨hH_.1.alloc hH_.1.size _, hH_.2.1.alloc _, hH_.2.2.alloc _⟩
          have KD := Blk.new wf3 31 #[.int .i64 0, .int .i64 0]
          have hgD : w1.heap.size ≤ wf3.heap.size := hH_.1.size
          have HBp := hH_.1
          replace RA0 := RA0.below ((Below.refl _ wf3).alloc (Nat.le_refl _) (.cells #[.int .i64 0, .int .i64 0] 31))
          replace RA1 := RA1.below ((Below.refl _ wf3).alloc (Nat.le_refl _) (.cells #[.int .i64 0, .int .i64 0] 31))
          clear hK K hH_
          have hH_ := hH1_
          clear hH1_
          refine wpAnyU_one (i := 4) (by kernel_rfl) rfl (fun K hK => ?_)
          go_simp
          refine (spec_Look_calls _ aV _ aX _ RA0 RA1 (by omega)).mono ?_
          rintro e wf4 ⟨uf4, rfl, of4, hbf4⟩
          rw [← HZ0.out] at of4
          obtain rfl := rd_eValue of4
          refine hK.out _ _ ?_ (fun hH1_ => ?_)
          · exact ⟨hH_.1.trans (hbf4.mono hH_.1.size), hH_.2.1.below hbf4, hH_.2.2.below hbf4⟩
          replace RA0 := RA0.below hbf4
          replace RA1 := RA1.below hbf4
          replace KD := KD.below hbf4
          clear hK K hH_
          have hH_ := hH1_
          clear hH1_
          refine wpAnyU_one' (i := 6) (by kernel_rfl) rfl (by kernel_rfl) (fun K hK => ?_)
          obtain ⟨kD, jD⟩ := KD.rules
          have lD := KD.lt
          have HBf := hH_.1
          go_simp
          refine hK.out _ _ ?_
          clear hK K
          refine wpAnyU_done (by kernel_rfl) ?_ _
          go_wp2_with fail
          go_meet
          case rel => first | exact ⟨wf3.heap.size, rfl, hgD, HBp.alloc HBp.size _, Blk.new _ _ _⟩ | exact ⟨wf3.heap.size, rfl, hgD, ((HBf.setCell (p := ⟨wf3.heap.size, 0, none⟩) hgD _).setCell (p := ⟨wf3.heap.size, 1, none⟩) hgD _), Blk.eq ((KD.set_ 0 _).set_ 1 _) (by simp)⟩
      · skip
        go_simp
        refine hK.out _ _ ?_ (fun hH1_ => ?_)
        · exact ⟨hH_.1.alloc hH_.1.size _, hH_.2.1.alloc _, hH_.2.2.alloc _⟩
        have KD := Blk.new wf2 31 #[.int .i64 0, .int .i64 0]
        have hgD : w1.heap.size ≤ wf2.heap.size := hH_.1.size
        have HBp := hH_.1
        replace RA0 := RA0.below ((Below.refl _ wf2).alloc (Nat.le_refl _) (.cells #[.int .i64 0, .int .i64 0] 31))
        clear hK K hH_
        have hH_ := hH1_
        clear hH1_
        refine wpAnyU_one (i := 3) (by kernel_rfl) rfl (fun K hK => ?_)
        go_simp
        refine (toValue_calls _ aX _ (ARaX.out.below (BB0_1.out.trans (hH_.1.mono BB0_1.out.size)))).mono ?_
        rintro e wf3 ⟨uf3, fpf3, rfl, of3, ff3, hbf3⟩
        refine hK.out _ _ ?_ (fun hH1_ => ?_)
        · exact ⟨hH_.1.trans (hbf3.mono hH_.1.size), hH_.2.1.below hbf3, hH_.2.2.below hbf3⟩
        replace RA0 := RA0.below hbf3
        replace KD := KD.below hbf3
        have RA1 := of3.rdw
        clear hK K hH_
        have hH_ := hH1_
        clear hH1_
        refine wpAnyU_one (i := 4) (by kernel_rfl) rfl (fun K hK => ?_)
        go_simp
        refine (spec_Look_calls _ aV _ aX _ RA0 RA1 (by omega)).mono ?_
        rintro e wf4 ⟨uf4, rfl, of4, hbf4⟩
        rw [← HZ0.out] at of4
        obtain rfl := rd_eValue of4
        refine hK.out _ _ ?_ (fun hH1_ => ?_)
        · exact ⟨hH_.1.trans (hbf4.mono hH_.1.size), hH_.2.1.below hbf4, hH_.2.2.below hbf4⟩
        replace RA0 := RA0.below hbf4
        replace RA1 := RA1.below hbf4
        replace KD := KD.below hbf4
        clear hK K hH_
        have hH_ := hH1_
        clear hH1_
        refine wpAnyU_one' (i := 6) (by kernel_rfl) rfl (by kernel_rfl) (fun K hK => ?_)
        obtain ⟨kD, jD⟩ := KD.rules
        have lD := KD.lt
        have HBf := hH_.1
        go_simp
        refine hK.out _ _ ?_
        clear hK K
        refine wpAnyU_done (by kernel_rfl) ?_ _
        go_wp2_with fail
        go_meet
        case rel => first | exact ⟨wf2.heap.size, rfl, hgD, HBp.alloc HBp.size _, Blk.new _ _ _⟩ | exact ⟨wf2.heap.size, rfl, hgD, ((HBf.setCell (p := ⟨wf2.heap.size, 0, none⟩) hgD _).setCell (p := ⟨wf2.heap.size, 1, none⟩) hgD _), Blk.eq ((KD.set_ 0 _).set_ 1 _) (by simp)⟩
    · skip
      go_simp
      refine hK.out _ _ ?_ (fun hH1_ => ?_)
      · exact ⟨((Below.refl w1.heap.size w1).alloc (Nat.le_refl _) _).drew, (KBaV_1.out.alloc _).drew, (KBaX_1.out.alloc _).drew⟩
      have KD := (Blk.new w1 31 #[.int .i64 0, .int .i64 0]).drew
      have hgD : w1.heap.size ≤ w1.heap.size := Nat.le_refl _
      clear hK K hH_
      have hH_ := hH1_
      clear hH1_
      refine wpAnyU_one (i := 1) (by kernel_rfl) rfl (fun K hK => ?_)
      go_simp
      refine (toVat_calls _ aV _ (ARaV.out.below (BB0_1.out.trans (hH_.1.mono BB0_1.out.size))) (by omega)).mono ?_
      rintro e wf2 ⟨uf2, fpf2, rfl, of2, ff2, hbf2⟩
      refine hK.out _ _ ?_ (fun hH1_ => ?_)
      · exact ⟨hH_.1.trans (hbf2.mono hH_.1.size), hH_.2.1.below hbf2, hH_.2.2.below hbf2⟩
      replace KD := KD.below hbf2
      have RA0 := of2.rdw
      clear hK K hH_
      have hH_ := hH1_
      clear hH1_
      refine wpAnyU_one (i := 3) (by kernel_rfl) rfl (fun K hK => ?_)
      go_simp
      refine (toValue_calls _ aX _ (ARaX.out.below (BB0_1.out.trans (hH_.1.mono BB0_1.out.size)))).mono ?_
      rintro e wf3 ⟨uf3, fpf3, rfl, of3, ff3, hbf3⟩
      refine hK.out _ _ ?_ (fun hH1_ => ?_)
      · exact ⟨hH_.1.trans (hbf3.mono hH_.1.size), hH_.2.1.below hbf3, hH_.2.2.below hbf3⟩
      replace RA0 := RA0.below hbf3
      replace KD := KD.below hbf3
      have RA1 := of3.rdw
      clear hK K hH_
      have hH_ := hH1_
      clear hH1_
      refine wpAnyU_one (i := 4) (by kernel_rfl) rfl (fun K hK => ?_)
      go_simp
      refine (spec_Look_calls _ aV _ aX _ RA0 RA1 (by omega)).mono ?_
      rintro e wf4 ⟨uf4, rfl, of4, hbf4⟩
      rw [← HZ0.out] at of4
      obtain rfl := rd_eValue of4
      refine hK.out _ _ ?_ (fun hH1_ => ?_)
      · exact ⟨hH_.1.trans (hbf4.mono hH_.1.size), hH_.2.1.below hbf4, hH_.2.2.below hbf4⟩
      replace RA0 := RA0.below hbf4
      replace RA1 := RA1.below hbf4
      replace KD := KD.below hbf4
      clear hK K hH_
      have hH_ := hH1_
      clear hH1_
      refine wpAnyU_one' (i := 6) (by kernel_rfl) rfl (by kernel_rfl) (fun K hK => ?_)
      obtain ⟨kD, jD⟩ := KD.rules
      have lD := KD.lt
      have HBf := hH_.1
      go_simp
      refine hK.out _ _ ?_
      clear hK K
      refine wpAnyU_done (by kernel_rfl) ?_ _
      go_wp2_with fail
      go_meet
      case rel => first | exact ⟨w1.heap.size, rfl, hgD, HBp.alloc HBp.size _, Blk.new _ _ _⟩ | exact ⟨w1.heap.size, rfl, hgD, ((HBf.setCell (p := ⟨w1.heap.size, 0, none⟩) hgD _).setCell (p := ⟨w1.heap.size, 1, none⟩) hgD _), Blk.eq ((KD.set_ 0 _).set_ 1 _) (by simp)⟩
  obtain ⟨g1_, rfl, hg1_, hb2, kD2_⟩ := hcut
  rename World => w2
  have NB2 : Below w1.heap.size w1 w2 := hb2
  have BB0_2 := Lib.hid (BB0_1.out.trans (NB2.mono BB0_1.out.size))
  have sz2 : w1.heap.size ≤ w2.heap.size := by have h := hb2.size; (try simp only [size_alloc] at h); omega
  have KBaV_2 : Hid (Blk w2 (w.heap.size) 27 #[.int .i64 aV.Id, v1aV, v2aV, v3aV, v4aV]) := Lib.hid (KBaV_1.out.below hb2)
  have KBaX_2 : Hid (Blk w2 (w.heap.size + 1) 29 #[.int .i64 aX.Kind, .int .i64 aX.N]) := Lib.hid (KBaX_1.out.below hb2)
  clear kcBaV_1 kfBaV_1 klBaV_1 kcBaX_1 kfBaX_1 klBaX_1
  obtain ⟨kcBaV_2, kfBaV_2⟩ := KBaV_2.out.rules
  have klBaV_2 := KBaV_2.out.lt
  obtain ⟨kcBaX_2, kfBaX_2⟩ := KBaX_2.out.rules
  have klBaX_2 := KBaX_2.out.lt
  clear hb2 NB2
  have Kw0_2 : Hid (Blk w2 (g1_) 31 #[.int .i64 z0.Kind, .int .i64 z0.N]) := Lib.hid kD2_
  clear kD2_
  obtain ⟨kcw0_2, kfw0_2⟩ := Kw0_2.out.rules
  have klw0_2 := Kw0_2.out.lt
  have D2 : Hid (RdLW w2 (eValue z0) [.int .i64 z0.Kind, .int .i64 z0.N]) := Lib.hid mkrd_eValue
  go_wp2_with fail
  refine (toVat_calls _ aV _ (ARaV.out.below BB0_2.out) (by omega)).mono ?_
  rintro e w3 ⟨u3, fp3, rfl, o3, f3, hb3⟩
  have NB3 : Below w2.heap.size w2 w3 := hb3
  have BB0_3 := Lib.hid (BB0_2.out.trans (NB3.mono BB0_2.out.size))
  have BB2_3 := Lib.hid (NB3)
  have sz3 : w2.heap.size ≤ w3.heap.size := by have h := hb3.size; (try simp only [size_alloc] at h); omega
  have KBaV_3 : Hid (Blk w3 (w.heap.size) 27 #[.int .i64 aV.Id, v1aV, v2aV, v3aV, v4aV]) := Lib.hid (KBaV_2.out.below hb3)
  have KBaX_3 : Hid (Blk w3 (w.heap.size + 1) 29 #[.int .i64 aX.Kind, .int .i64 aX.N]) := Lib.hid (KBaX_2.out.below hb3)
  have Kw0_3 : Hid (Blk w3 (g1_) 31 #[.int .i64 z0.Kind, .int .i64 z0.N]) := Lib.hid (Kw0_2.out.below hb3)
  clear kcBaV_2 kfBaV_2 klBaV_2 kcBaX_2 kfBaX_2 klBaX_2 kcw0_2 kfw0_2 klw0_2
  obtain ⟨kcBaV_3, kfBaV_3⟩ := KBaV_3.out.rules
  have klBaV_3 := KBaV_3.out.lt
  obtain ⟨kcBaX_3, kfBaX_3⟩ := KBaX_3.out.rules
  have klBaX_3 := KBaX_3.out.lt
  obtain ⟨kcw0_3, kfw0_3⟩ := Kw0_3.out.rules
  have klw0_3 := Kw0_3.out.lt
  clear hb3 NB3
  obtain ⟨v1_3, f1_3, v2_3, f2_3, v3_3, f3_3, v4_3, f4_3, rfl, -, q1_3, q2_3, q3_3, q4_3⟩ := own_eVat o3
  obtain ⟨A1_3, c1_3, rfl, -⟩ := q1_3.slice
  obtain ⟨A2_3, c2_3, rfl, -⟩ := q2_3.slice
  obtain ⟨A3_3, c3_3, rfl, -⟩ := q3_3.slice
  obtain ⟨A4_3, c4_3, rfl, -⟩ := q4_3.slice
  clear q1_3 q2_3 q3_3 q4_3
  have LB3 : Hid (∀ g, g ∈ fp3 → w2.heap.size ≤ g) := Lib.hid (fun g hg => by have h := f3.2 g hg; (try simp only [size_alloc] at h); omega)
  have UB3 : Hid (∀ g, g ∈ fp3 → g < w3.heap.size) := Lib.hid (OwnL.lt _ _ _ o3)
  have ND3 := Lib.hid f3.1
  clear f3
  have D3 := Lib.hid o3
  clear o3
  go_wp2
  obtain ⟨w4, hw4⟩ : ∃ q, q = (w3.alloc (.cells #[.int .i64 aV.Id, .slice A1_3 (aV.Entities).length c1_3, .slice A2_3 (aV.Loop).length c2_3, .slice A3_3 (aV.Links).length c3_3, .slice A4_3 (aV.Out).length c4_3] 38)) := ⟨_, rfl⟩
  rw [← hw4]
  have hb4 : Below (w3.alloc (.cells #[.int .i64 aV.Id, .slice A1_3 (aV.Entities).length c1_3, .slice A2_3 (aV.Loop).length c2_3, .slice A3_3 (aV.Links).length c3_3, .slice A4_3 (aV.Out).length c4_3] 38)).heap.size (w3.alloc (.cells #[.int .i64 aV.Id, .slice A1_3 (aV.Entities).length c1_3, .slice A2_3 (aV.Loop).length c2_3, .slice A3_3 (aV.Links).length c3_3, .slice A4_3 (aV.Out).length c4_3] 38)) w4 := by rw [hw4]; exact Below.refl _ _
  clear hw4
  have NB4 : Below w3.heap.size w3 w4 := (((Below.refl _ _).alloc (Nat.le_refl _) _)).trans (hb4.mono (by (try simp only [size_alloc]); omega))
  have BB0_4 := Lib.hid (BB0_3.out.trans (NB4.mono BB0_3.out.size))
  have BB2_4 := Lib.hid (BB2_3.out.trans (NB4.mono BB2_3.out.size))
  have BB3_4 := Lib.hid (NB4)
  have sz4 : w3.heap.size + 1 ≤ w4.heap.size := by have h := hb4.size; (try simp only [size_alloc] at h); omega
  have KBaV_4 : Hid (Blk w4 (w.heap.size) 27 #[.int .i64 aV.Id, v1aV, v2aV, v3aV, v4aV]) := Lib.hid ((KBaV_3.out.alloc _).below hb4)
  have KBaX_4 : Hid (Blk w4 (w.heap.size + 1) 29 #[.int .i64 aX.Kind, .int .i64 aX.N]) := Lib.hid ((KBaX_3.out.alloc _).below hb4)
  have Kw0_4 : Hid (Blk w4 (g1_) 31 #[.int .i64 z0.Kind, .int .i64 z0.N]) := Lib.hid ((Kw0_3.out.alloc _).below hb4)
  have Kx0_4 : Hid (Blk w4 (w3.heap.size) 38 #[.int .i64 aV.Id, .slice A1_3 (aV.Entities).length c1_3, .slice A2_3 (aV.Loop).length c2_3, .slice A3_3 (aV.Links).length c3_3, .slice A4_3 (aV.Out).length c4_3]) := Lib.hid ((Blk.made rfl).below hb4)
  clear kcBaV_3 kfBaV_3 klBaV_3 kcBaX_3 kfBaX_3 klBaX_3 kcw0_3 kfw0_3 klw0_3
  obtain ⟨kcBaV_4, kfBaV_4⟩ := KBaV_4.out.rules
  have klBaV_4 := KBaV_4.out.lt
  obtain ⟨kcBaX_4, kfBaX_4⟩ := KBaX_4.out.rules
  have klBaX_4 := KBaX_4.out.lt
  obtain ⟨kcw0_4, kfw0_4⟩ := Kw0_4.out.rules
  have klw0_4 := Kw0_4.out.lt
  obtain ⟨kcx0_4, kfx0_4⟩ := Kx0_4.out.rules
  have klx0_4 := Kx0_4.out.lt
  clear hb4 NB4
  have RD0 := Lib.hid ((D3.out.rdw.below BB3_4.out))
  go_wp2
  go_cut [8] from 21 to 24 (fun p_ wx => ∃ g : Nat, p_ = .pointer (some ⟨g, 0, none⟩) ∧ w4.heap.size ≤ g ∧ Below w4.heap.size w4 wx ∧ Blk wx g 31 #[.int .i64 z0.Kind, .int .i64 z0.N])
  case first =>
    refine wp_region_U (fun wq => Below w4.heap.size w4 wq ∧ Blk wq (w3.heap.size) 38 #[.int .i64 aV.Id, .slice A1_3 (aV.Entities).length c1_3, .slice A2_3 (aV.Loop).length c2_3, .slice A3_3 (aV.Links).length c3_3, .slice A4_3 (aV.Out).length c4_3] ∧ Blk wq (w.heap.size + 1) 29 #[.int .i64 aX.Kind, .int .i64 aX.N]) [0, 1, 2, 3, 4, 5] (by kernel_rfl) ?_
    have hH_ := (⟨(Below.refl w4.heap.size w4).drew, Kx0_4.out.drew, KBaX_4.out.drew⟩ : (fun wq => Below w4.heap.size w4 wq ∧ Blk wq (w3.heap.size) 38 #[.int .i64 aV.Id, .slice A1_3 (aV.Entities).length c1_3, .slice A2_3 (aV.Loop).length c2_3, .slice A3_3 (aV.Links).length c3_3, .slice A4_3 (aV.Out).length c4_3] ∧ Blk wq (w.heap.size + 1) 29 #[.int .i64 aX.Kind, .int .i64 aX.N]) w4.drew)
    refine wpAnyU_take (i := 0) (v := ?_) rfl (by kernel_rfl) (by kernel_rfl) (by kernel_rfl) (by kernel_rfl) (fun _ _ _ h => h) (Or.inl ⟨by rfl, ?_⟩) hH_ ?_
    rotate_left
    · (intro w hSw; (obtain ⟨hb_, ha0, ha1⟩ := hSw; obtain ⟨kc0, kf0⟩ := ha0.rules; obtain ⟨kc1, kf1⟩ := ha1.rules; go_simp <;> with_reducible rfl))
    simp only [Act.put, List.setIfInBounds_toArray, List.set_cons_zero, List.set_cons_succ]
    refine wpAnyU_take (i := 1) (v := ?_) rfl (by kernel_rfl) (by kernel_rfl) (by kernel_rfl) (by kernel_rfl) (fun _ _ _ h => h) (Or.inl ⟨by rfl, ?_⟩) hH_ ?_
    rotate_left
    · (intro w hSw; (obtain ⟨hb_, ha0, ha1⟩ := hSw; obtain ⟨kc0, kf0⟩ := ha0.rules; obtain ⟨kc1, kf1⟩ := ha1.rules; go_simp <;> with_reducible rfl))
    simp only [Act.put, List.setIfInBounds_toArray, List.set_cons_zero, List.set_cons_succ]
    refine wpAnyU_two (i := 2) (j := 4) (by kernel_rfl) rfl rfl (fun K hK => ?_) (fun K hK => ?_)
    · skip
      go_simp
      refine (toValue_calls _ aX _ (ARaX.out.below (BB0_4.out.trans (hH_.1.mono BB0_4.out.size)))).mono ?_
      rintro e wf5 ⟨uf5, fpf5, rfl, of5, ff5, hbf5⟩
      refine hK.out _ _ ?_ (fun hH1_ => ?_)
      · exact ⟨hH_.1.trans (hbf5.mono hH_.1.size), hH_.2.1.below hbf5, hH_.2.2.below hbf5⟩
      have RA1 := of5.rdw
      clear hK K hH_
      have hH_ := hH1_
      clear hH1_
      refine wpAnyU_two (i := 3) (j := 4) (by kernel_rfl) rfl rfl (fun K hK => ?_) (fun K hK => ?_)
      · skip
        go_simp
        refine (impl_Look_calls _ aV _ aX _ (RD0.out.below hH_.1) RA1 (by omega)).mono ?_
        rintro e wf6 ⟨uf6, fpf6, rfl, of6, ff6, hbf6⟩
        rw [← HZ0.out] at of6
        obtain ⟨rfl, -⟩ := own_eValue of6
        refine hK.out _ _ ?_ (fun hH1_ => ?_)
        · exact ⟨hH_.1.trans (hbf6.mono hH_.1.size), hH_.2.1.below hbf6, hH_.2.2.below hbf6⟩
        replace RA1 := RA1.below hbf6
        clear hK K hH_
        have hH_ := hH1_
        clear hH1_
        refine wpAnyU_one (i := 4) (by kernel_rfl) rfl (fun K hK => ?_)
        go_simp
        refine hK.out _ _ ?_ (fun hH1_ => ?_)
        · exact ⟨hH_.1.alloc hH_.1.size _, hH_.2.1.alloc _, hH_.2.2.alloc _⟩
        have KD := Blk.new wf6 31 #[.int .i64 0, .int .i64 0]
        have hgD : w4.heap.size ≤ wf6.heap.size := hH_.1.size
        have HBp := hH_.1
        replace RA1 := RA1.below ((Below.refl _ wf6).alloc (Nat.le_refl _) (.cells #[.int .i64 0, .int .i64 0] 31))
        clear hK K hH_
        have hH_ := hH1_
        clear hH1_
        refine wpAnyU_one' (i := 5) (by kernel_rfl) rfl (by kernel_rfl) (fun K hK => ?_)
        obtain ⟨kD, jD⟩ := KD.rules
        have lD := KD.lt
        have HBf := hH_.1
        go_simp
        refine hK.out _ _ ?_
        clear hK K
        refine wpAnyU_done (by kernel_rfl) ?_ _
        go_wp2_with fail
        go_meet
        case rel => first | exact ⟨wf6.heap.size, rfl, hgD, HBp.alloc HBp.size _, Blk.new _ _ _⟩ | exact ⟨wf6.heap.size, rfl, hgD, ((HBf.setCell (p := ⟨wf6.heap.size, 0, none⟩) hgD _).setCell (p := ⟨wf6.heap.size, 1, none⟩) hgD _), Blk.eq ((KD.set_ 0 _).set_ 1 _) (by simp)⟩
      · skip
        go_simp
        refine hK.out _ _ ?_ (fun hH1_ => ?_)
        · exact ⟨hH_.1.alloc hH_.1.size _, hH_.2.1.alloc _, hH_.2.2.alloc _⟩
        have KD := Blk.new wf5 31 #[.int .i64 0, .int .i64 0]
        have hgD : w4.heap.size ≤ wf5.heap.size := hH_.1.size
        have HBp := hH_.1
        replace RA1 := RA1.below ((Below.refl _ wf5).alloc (Nat.le_refl _) (.cells #[.int .i64 0, .int .i64 0] 31))
        clear hK K hH_
        have hH_ := hH1_
        clear hH1_
        refine wpAnyU_one (i := 3) (by kernel_rfl) rfl (fun K hK => ?_)
        go_simp
        refine (impl_Look_calls _ aV _ aX _ (RD0.out.below hH_.1) RA1 (by omega)).mono ?_
        rintro e wf6 ⟨uf6, fpf6, rfl, of6, ff6, hbf6⟩
        rw [← HZ0.out] at of6
        obtain ⟨rfl, -⟩ := own_eValue of6
        refine hK.out _ _ ?_ (fun hH1_ => ?_)
        · exact ⟨hH_.1.trans (hbf6.mono hH_.1.size), hH_.2.1.below hbf6, hH_.2.2.below hbf6⟩
        replace RA1 := RA1.below hbf6
        replace KD := KD.below hbf6
        clear hK K hH_
        have hH_ := hH1_
        clear hH1_
        refine wpAnyU_one' (i := 5) (by kernel_rfl) rfl (by kernel_rfl) (fun K hK => ?_)
        obtain ⟨kD, jD⟩ := KD.rules
        have lD := KD.lt
        have HBf := hH_.1
        go_simp
        refine hK.out _ _ ?_
        clear hK K
        refine wpAnyU_done (by kernel_rfl) ?_ _
        go_wp2_with fail
        go_meet
        case rel => first | exact ⟨wf5.heap.size, rfl, hgD, HBp.alloc HBp.size _, Blk.new _ _ _⟩ | exact ⟨wf5.heap.size, rfl, hgD, ((HBf.setCell (p := ⟨wf5.heap.size, 0, none⟩) hgD _).setCell (p := ⟨wf5.heap.size, 1, none⟩) hgD _), Blk.eq ((KD.set_ 0 _).set_ 1 _) (by simp)⟩
    · skip
      go_simp
      refine hK.out _ _ ?_ (fun hH1_ => ?_)
      · exact ⟨((Below.refl w4.heap.size w4).alloc (Nat.le_refl _) _).drew, (Kx0_4.out.alloc _).drew, (KBaX_4.out.alloc _).drew⟩
      have KD := (Blk.new w4 31 #[.int .i64 0, .int .i64 0]).drew
      have hgD : w4.heap.size ≤ w4.heap.size := Nat.le_refl _
      clear hK K hH_
      have hH_ := hH1_
      clear hH1_
      refine wpAnyU_one (i := 2) (by kernel_rfl) rfl (fun K hK => ?_)
      go_simp
      refine (toValue_calls _ aX _ (ARaX.out.below (BB0_4.out.trans (hH_.1.mono BB0_4.out.size)))).mono ?_
      rintro e wf5 ⟨uf5, fpf5, rfl, of5, ff5, hbf5⟩
      refine hK.out _ _ ?_ (fun hH1_ => ?_)
      · exact ⟨hH_.1.trans (hbf5.mono hH_.1.size), hH_.2.1.below hbf5, hH_.2.2.below hbf5⟩
      replace KD := KD.below hbf5
      have RA1 := of5.rdw
      clear hK K hH_
      have hH_ := hH1_
      clear hH1_
      refine wpAnyU_one (i := 3) (by kernel_rfl) rfl (fun K hK => ?_)
      go_simp
      refine (impl_Look_calls _ aV _ aX _ (RD0.out.below hH_.1) RA1 (by omega)).mono ?_
      rintro e wf6 ⟨uf6, fpf6, rfl, of6, ff6, hbf6⟩
      rw [← HZ0.out] at of6
      obtain ⟨rfl, -⟩ := own_eValue of6
      refine hK.out _ _ ?_ (fun hH1_ => ?_)
      · exact ⟨hH_.1.trans (hbf6.mono hH_.1.size), hH_.2.1.below hbf6, hH_.2.2.below hbf6⟩
      replace RA1 := RA1.below hbf6
      replace KD := KD.below hbf6
      clear hK K hH_
      have hH_ := hH1_
      clear hH1_
      refine wpAnyU_one' (i := 5) (by kernel_rfl) rfl (by kernel_rfl) (fun K hK => ?_)
      obtain ⟨kD, jD⟩ := KD.rules
      have lD := KD.lt
      have HBf := hH_.1
      go_simp
      refine hK.out _ _ ?_
      clear hK K
      refine wpAnyU_done (by kernel_rfl) ?_ _
      go_wp2_with fail
      go_meet
      case rel => first | exact ⟨w4.heap.size, rfl, hgD, HBp.alloc HBp.size _, Blk.new _ _ _⟩ | exact ⟨w4.heap.size, rfl, hgD, ((HBf.setCell (p := ⟨w4.heap.size, 0, none⟩) hgD _).setCell (p := ⟨w4.heap.size, 1, none⟩) hgD _), Blk.eq ((KD.set_ 0 _).set_ 1 _) (by simp)⟩
  obtain ⟨g4_, rfl, hg4_, hb5, kD5_⟩ := hcut
  rename World => w5
  have NB5 : Below w4.heap.size w4 w5 := hb5
  have BB0_5 := Lib.hid (BB0_4.out.trans (NB5.mono BB0_4.out.size))
  have BB2_5 := Lib.hid (BB2_4.out.trans (NB5.mono BB2_4.out.size))
  have BB3_5 := Lib.hid (BB3_4.out.trans (NB5.mono BB3_4.out.size))
  have sz5 : w4.heap.size ≤ w5.heap.size := by have h := hb5.size; (try simp only [size_alloc] at h); omega
  have KBaV_5 : Hid (Blk w5 (w.heap.size) 27 #[.int .i64 aV.Id, v1aV, v2aV, v3aV, v4aV]) := Lib.hid (KBaV_4.out.below hb5)
  have KBaX_5 : Hid (Blk w5 (w.heap.size + 1) 29 #[.int .i64 aX.Kind, .int .i64 aX.N]) := Lib.hid (KBaX_4.out.below hb5)
  have Kw0_5 : Hid (Blk w5 (g1_) 31 #[.int .i64 z0.Kind, .int .i64 z0.N]) := Lib.hid (Kw0_4.out.below hb5)
  have Kx0_5 : Hid (Blk w5 (w3.heap.size) 38 #[.int .i64 aV.Id, .slice A1_3 (aV.Entities).length c1_3, .slice A2_3 (aV.Loop).length c2_3, .slice A3_3 (aV.Links).length c3_3, .slice A4_3 (aV.Out).length c4_3]) := Lib.hid (Kx0_4.out.below hb5)
  clear kcBaV_4 kfBaV_4 klBaV_4 kcBaX_4 kfBaX_4 klBaX_4 kcw0_4 kfw0_4 klw0_4 kcx0_4 kfx0_4 klx0_4
  obtain ⟨kcBaV_5, kfBaV_5⟩ := KBaV_5.out.rules
  have klBaV_5 := KBaV_5.out.lt
  obtain ⟨kcBaX_5, kfBaX_5⟩ := KBaX_5.out.rules
  have klBaX_5 := KBaX_5.out.lt
  obtain ⟨kcw0_5, kfw0_5⟩ := Kw0_5.out.rules
  have klw0_5 := Kw0_5.out.lt
  obtain ⟨kcx0_5, kfx0_5⟩ := Kx0_5.out.rules
  have klx0_5 := Kx0_5.out.lt
  clear hb5 NB5
  have Kg0_5 : Hid (Blk w5 (g4_) 31 #[.int .i64 z0.Kind, .int .i64 z0.N]) := Lib.hid kD5_
  clear kD5_
  obtain ⟨kcg0_5, kfg0_5⟩ := Kg0_5.out.rules
  have klg0_5 := Kg0_5.out.lt
  have D5 : Hid (RdLW w5 (eValue z0) [.int .i64 z0.Kind, .int .i64 z0.N]) := Lib.hid mkrd_eValue
  go_wp2_with fail
  refine (eqValue_calls _ _ z0 _ (D5.out.below (Below.refl _ _)) (D2.out.below BB2_5.out)).mono ?_
  rintro e w6 ⟨rfl, hb6⟩
  have NB6 : Below w5.heap.size w5 w6 := hb6
  have BB0_6 := Lib.hid (BB0_5.out.trans (NB6.mono BB0_5.out.size))
  have BB2_6 := Lib.hid (BB2_5.out.trans (NB6.mono BB2_5.out.size))
  have BB3_6 := Lib.hid (BB3_5.out.trans (NB6.mono BB3_5.out.size))
  have BB5_6 := Lib.hid (NB6)
  have sz6 : w5.heap.size ≤ w6.heap.size := by have h := hb6.size; (try simp only [size_alloc] at h); omega
  have KBaV_6 : Hid (Blk w6 (w.heap.size) 27 #[.int .i64 aV.Id, v1aV, v2aV, v3aV, v4aV]) := Lib.hid (KBaV_5.out.below hb6)
  have KBaX_6 : Hid (Blk w6 (w.heap.size + 1) 29 #[.int .i64 aX.Kind, .int .i64 aX.N]) := Lib.hid (KBaX_5.out.below hb6)
  have Kw0_6 : Hid (Blk w6 (g1_) 31 #[.int .i64 z0.Kind, .int .i64 z0.N]) := Lib.hid (Kw0_5.out.below hb6)
  have Kx0_6 : Hid (Blk w6 (w3.heap.size) 38 #[.int .i64 aV.Id, .slice A1_3 (aV.Entities).length c1_3, .slice A2_3 (aV.Loop).length c2_3, .slice A3_3 (aV.Links).length c3_3, .slice A4_3 (aV.Out).length c4_3]) := Lib.hid (Kx0_5.out.below hb6)
  have Kg0_6 : Hid (Blk w6 (g4_) 31 #[.int .i64 z0.Kind, .int .i64 z0.N]) := Lib.hid (Kg0_5.out.below hb6)
  clear kcBaV_5 kfBaV_5 klBaV_5 kcBaX_5 kfBaX_5 klBaX_5 kcw0_5 kfw0_5 klw0_5 kcx0_5 kfx0_5 klx0_5 kcg0_5 kfg0_5 klg0_5
  obtain ⟨kcBaV_6, kfBaV_6⟩ := KBaV_6.out.rules
  have klBaV_6 := KBaV_6.out.lt
  obtain ⟨kcBaX_6, kfBaX_6⟩ := KBaX_6.out.rules
  have klBaX_6 := KBaX_6.out.lt
  obtain ⟨kcw0_6, kfw0_6⟩ := Kw0_6.out.rules
  have klw0_6 := Kw0_6.out.lt
  obtain ⟨kcx0_6, kfx0_6⟩ := Kx0_6.out.rules
  have klx0_6 := Kx0_6.out.lt
  obtain ⟨kcg0_6, kfg0_6⟩ := Kg0_6.out.rules
  have klg0_6 := Kg0_6.out.lt
  clear hb6 NB6
  go_wp2
  go_region_held3 (fun wq => wq.cell? ⟨w3.heap.size, 0, none⟩ = some (.int .i64 aV.Id) ∧ wq.cell? ⟨w3.heap.size, 1, none⟩ = some (.slice A1_3 (aV.Entities).length c1_3) ∧ wq.cell? ⟨w3.heap.size, 2, none⟩ = some (.slice A2_3 (aV.Loop).length c2_3) ∧ wq.cell? ⟨w3.heap.size, 3, none⟩ = some (.slice A3_3 (aV.Links).length c3_3) ∧ wq.cell? ⟨w3.heap.size, 4, none⟩ = some (.slice A4_3 (aV.Out).length c4_3) ∧ wq.cell? ⟨w.heap.size, 0, none⟩ = some (.int .i64 aV.Id) ∧ wq.cell? ⟨w.heap.size, 1, none⟩ = some (v1aV) ∧ wq.cell? ⟨w.heap.size, 2, none⟩ = some (v2aV) ∧ wq.cell? ⟨w.heap.size, 3, none⟩ = some (v3aV) ∧ wq.cell? ⟨w.heap.size, 4, none⟩ = some (v4aV))
    (first | exact ⟨kcx0_8q 0, kcx0_8q 1, kcx0_8q 2, kcx0_8q 3, kcx0_8q 4, kcBaV_8q 0, kcBaV_8q 1, kcBaV_8q 2, kcBaV_8q 3, kcBaV_8q 4⟩ | exact ⟨kcx0_7q 0, kcx0_7q 1, kcx0_7q 2, kcx0_7q 3, kcx0_7q 4, kcBaV_7q 0, kcBaV_7q 1, kcBaV_7q 2, kcBaV_7q 3, kcBaV_7q 4⟩ | exact ⟨kcx0_6 0, kcx0_6 1, kcx0_6 2, kcx0_6 3, kcx0_6 4, kcBaV_6 0, kcBaV_6 1, kcBaV_6 2, kcBaV_6 3, kcBaV_6 4⟩)
    (first
      | (have _hq := hbq7; clear _hq; go_at_call 10; refine (eqVat_calls _ _ aV _ ((D3.out.rdw.below BB3_6.out).below ((Below.refl _ _).drew.trans hbq7)) o7.rdw).mono ?_; rintro e w8 ⟨rfl, hbq8⟩; obtain ⟨kcx0_8q, kfx0_8q⟩ := ((Kx0_6.out.drew.below hbq7).below hbq8).rules; obtain ⟨kcBaV_8q, kfBaV_8q⟩ := ((KBaV_6.out.drew.below hbq7).below hbq8).rules)
      | (go_at_call 6; refine (toVat_calls _ aV _ ((ARaV.out.below BB0_6.out).below (Below.refl _ _).drew) (by omega)).mono ?_; rintro e w7 ⟨u7, fp7, rfl, o7, f7, hbq7⟩; obtain ⟨kcx0_7q, kfx0_7q⟩ := (Kx0_6.out.drew.below hbq7).rules; obtain ⟨kcBaV_7q, kfBaV_7q⟩ := (KBaV_6.out.drew.below hbq7).rules))
  clear kcx0_7q kfx0_7q kcx0_8q kfx0_8q kcBaV_7q kfBaV_7q kcBaV_8q kfBaV_8q
  have hb7 := (Below.refl w6.heap.size w6).drew.trans hbq7
  have hb8 := hbq8
  clear hbq7 hbq8 o7 f7
  have NB7 : Below w6.heap.size w6 w7 := hb7
  have BB0_7 := Lib.hid (BB0_6.out.trans (NB7.mono BB0_6.out.size))
  have BB2_7 := Lib.hid (BB2_6.out.trans (NB7.mono BB2_6.out.size))
  have BB3_7 := Lib.hid (BB3_6.out.trans (NB7.mono BB3_6.out.size))
  have BB5_7 := Lib.hid (BB5_6.out.trans (NB7.mono BB5_6.out.size))
  have sz7 : w6.heap.size ≤ w7.heap.size := by have h := hb7.size; (try simp only [size_alloc] at h); omega
  have KBaV_7 : Hid (Blk w7 (w.heap.size) 27 #[.int .i64 aV.Id, v1aV, v2aV, v3aV, v4aV]) := Lib.hid (KBaV_6.out.below hb7)
  have KBaX_7 : Hid (Blk w7 (w.heap.size + 1) 29 #[.int .i64 aX.Kind, .int .i64 aX.N]) := Lib.hid (KBaX_6.out.below hb7)
  have Kw0_7 : Hid (Blk w7 (g1_) 31 #[.int .i64 z0.Kind, .int .i64 z0.N]) := Lib.hid (Kw0_6.out.below hb7)
  have Kx0_7 : Hid (Blk w7 (w3.heap.size) 38 #[.int .i64 aV.Id, .slice A1_3 (aV.Entities).length c1_3, .slice A2_3 (aV.Loop).length c2_3, .slice A3_3 (aV.Links).length c3_3, .slice A4_3 (aV.Out).length c4_3]) := Lib.hid (Kx0_6.out.below hb7)
  have Kg0_7 : Hid (Blk w7 (g4_) 31 #[.int .i64 z0.Kind, .int .i64 z0.N]) := Lib.hid (Kg0_6.out.below hb7)
  clear kcBaV_6 kfBaV_6 klBaV_6 kcBaX_6 kfBaX_6 klBaX_6 kcw0_6 kfw0_6 klw0_6 kcx0_6 kfx0_6 klx0_6 kcg0_6 kfg0_6 klg0_6
  obtain ⟨kcBaV_7, kfBaV_7⟩ := KBaV_7.out.rules
  have klBaV_7 := KBaV_7.out.lt
  obtain ⟨kcBaX_7, kfBaX_7⟩ := KBaX_7.out.rules
  have klBaX_7 := KBaX_7.out.lt
  obtain ⟨kcw0_7, kfw0_7⟩ := Kw0_7.out.rules
  have klw0_7 := Kw0_7.out.lt
  obtain ⟨kcx0_7, kfx0_7⟩ := Kx0_7.out.rules
  have klx0_7 := Kx0_7.out.lt
  obtain ⟨kcg0_7, kfg0_7⟩ := Kg0_7.out.rules
  have klg0_7 := Kg0_7.out.lt
  clear hb7 NB7
  have NB8 : Below w7.heap.size w7 w8 := hb8
  have BB0_8 := Lib.hid (BB0_7.out.trans (NB8.mono BB0_7.out.size))
  have BB2_8 := Lib.hid (BB2_7.out.trans (NB8.mono BB2_7.out.size))
  have BB3_8 := Lib.hid (BB3_7.out.trans (NB8.mono BB3_7.out.size))
  have BB5_8 := Lib.hid (BB5_7.out.trans (NB8.mono BB5_7.out.size))
  have sz8 : w7.heap.size ≤ w8.heap.size := by have h := hb8.size; (try simp only [size_alloc] at h); omega
  have KBaV_8 : Hid (Blk w8 (w.heap.size) 27 #[.int .i64 aV.Id, v1aV, v2aV, v3aV, v4aV]) := Lib.hid (KBaV_7.out.below hb8)
  have KBaX_8 : Hid (Blk w8 (w.heap.size + 1) 29 #[.int .i64 aX.Kind, .int .i64 aX.N]) := Lib.hid (KBaX_7.out.below hb8)
  have Kw0_8 : Hid (Blk w8 (g1_) 31 #[.int .i64 z0.Kind, .int .i64 z0.N]) := Lib.hid (Kw0_7.out.below hb8)
  have Kx0_8 : Hid (Blk w8 (w3.heap.size) 38 #[.int .i64 aV.Id, .slice A1_3 (aV.Entities).length c1_3, .slice A2_3 (aV.Loop).length c2_3, .slice A3_3 (aV.Links).length c3_3, .slice A4_3 (aV.Out).length c4_3]) := Lib.hid (Kx0_7.out.below hb8)
  have Kg0_8 : Hid (Blk w8 (g4_) 31 #[.int .i64 z0.Kind, .int .i64 z0.N]) := Lib.hid (Kg0_7.out.below hb8)
  clear kcBaV_7 kfBaV_7 klBaV_7 kcBaX_7 kfBaX_7 klBaX_7 kcw0_7 kfw0_7 klw0_7 kcx0_7 kfx0_7 klx0_7 kcg0_7 kfg0_7 klg0_7
  obtain ⟨kcBaV_8, kfBaV_8⟩ := KBaV_8.out.rules
  have klBaV_8 := KBaV_8.out.lt
  obtain ⟨kcBaX_8, kfBaX_8⟩ := KBaX_8.out.rules
  have klBaX_8 := KBaX_8.out.lt
  obtain ⟨kcw0_8, kfw0_8⟩ := Kw0_8.out.rules
  have klw0_8 := Kw0_8.out.lt
  obtain ⟨kcx0_8, kfx0_8⟩ := Kx0_8.out.rules
  have klx0_8 := Kx0_8.out.lt
  obtain ⟨kcg0_8, kfg0_8⟩ := Kg0_8.out.rules
  have klg0_8 := Kg0_8.out.lt
  clear hb8 NB8
  go_wp2
  go_ret
  exact ⟨rfl, BB0_8.out⟩

end Go.Proofs.Ytjfaklbccbofpaa
