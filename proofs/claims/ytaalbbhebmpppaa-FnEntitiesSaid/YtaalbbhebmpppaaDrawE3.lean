import Derived.Test.YtaalbbhebmpppaaProg
import Derived.Test.YtaalbbhebmpppaaTypes
import Derived.StillTailTactics
import Derived.Deep.RegionHeld3
import Derived.Laws.IdiomStrings
import Derived.Test.YtaalbbhebmpppaaAppend
import Derived.Laws.StructEq
import Derived.Lib.SliceRun
import Derived.Shelf.RegionOpenPlain
import Derived.Test.YtaalbbhebmpppaaDrawE2
namespace Go.Proofs.Ytaalbbhebmpppaa
open Go.RowKit
set_option linter.unusedVariables false
set_option linter.unusedSimpArgs false

set_option maxHeartbeats 6400000 in
set_option maxRecDepth 100000 in
theorem spec_l4List_calls (W0 : World) (g : Nat) (w : World) (hC : Cur W0 g w) :
    Calls Try.prog 50 #[.pointer (some ⟨g, 0, none⟩)] w fun e w' => ∃ (xs : List GValue) (A : Option Addr) (c : Nat), e = .returned (.slice A xs.length c) ∧ xs.length ≤ 3 ∧ w'.ownsRow w.heap.size 33 2 (.slice A xs.length c) xs.length (xs.flatMap vsValue) ∧ Cur W0 g w' ∧ Chg (· = g) w w' := by
  have hlt := hC.lt
  have hW0 := hC.base.size
  have HC := Lib.hid (hC.below ((Below.refl w.heap.size w).alloc (Nat.le_refl _) (.cells #[] 33)))
  have HG := Lib.hid ((Chg.refl (· = g) w).alloc (.cells #[] 33))
  have HO : Hid ((w.alloc (.cells #[] 33)).ownsRow w.heap.size 33 2 (.slice (some ⟨w.heap.size, 0, none⟩) 0 0) 0 []) := ownsRow_made' rfl (Nat.le_refl _)
  clear hC
  go_enter Try.func50, Try.ntmps50
  go_wp2_with fail
  refine (spec_l1Below_calls W0 g _ _ HC.out).mono ?_
  rintro e w1 ⟨i, hi0, hi1, rfl, hc_, hg_⟩
  replace hi1 := hi1 (by omega)
  obtain ⟨i, rfl⟩ := Int.eq_ofNat_of_zero_le hi0
  have HC1 := Lib.hid hc_
  have HG1 := Lib.hid (HG.out.trans hg_)
  have HO1 := Lib.hid (ownsRow_keep HO.out hg_ (fun k hk e => by have := (HO.out.lt k hk).1; omega))
  clear hc_ hg_ HC HG HO
  go_wp2_with fail
  go_loopw [3, 4] (fun a_ b_ wr => ∃ (i : Nat) (xs : List GValue) (A : Option Addr) (c_ : Nat), b_ = .int .i64 i ∧ a_ = .slice A xs.length c_ ∧ i + xs.length ≤ 3 ∧ Hid (wr.ownsRow w.heap.size 33 2 (.slice A xs.length c_) xs.length (xs.flatMap vsValue)) ∧ Hid (Cur W0 g wr) ∧ Hid (Chg (· = g) w wr)) (fun a_ b_ wr => (intOf b_).toNat)
  case atStart => exact ⟨i, [], some ⟨w.heap.size, 0, none⟩, 0, rfl, rfl, by simp only [List.length_nil]; omega, HO1, HC1, HG1⟩
  case round =>
    clear HC1 HG1 HO1
    obtain ⟨i, xs, A3, c3, rfl, rfl, hix, HO, HC, HG⟩ := hrel
    have hlo := HO.out.lt
    by_cases hp : (0 : Int) < i
    · go_wp2_with fail
      refine (spec_l4Any_calls W0 g _ HC.out).mono ?_
      rintro e wc ⟨y, rfl, hc_, hg_⟩
      have hs_c := hg_.size
      have HCc := Lib.hid hc_
      have HGc := Lib.hid (HG.out.trans hg_)
      have hszw : w.heap.size ≤ wc.heap.size := HGc.out.size
      have HOc := Lib.hid (ownsRow_keep HO.out hg_ (fun k hk e => by have := (hlo k hk).1; omega))
      clear hc_ hg_
      go_wp2_with (at_builtin; refine wpList_append_rd rfl _ _ 32 rfl (w.heap.size) 33 _ _ 2 16 Try.underlying32 rfl rfl rfl rfl rfl (by omega) _ xs.length _ rfl (HOc.out.alloc _) vals_eValue [y] (one_eValue _) (lenv_eValue _) _ _ rfl (rdW_one vals_eValue wc y 33) (by simp; omega) (by omega) (by simp; omega) ?_)
      intro A5 c5 w5 ho5 hg5
      have hlo2 : ∀ k, (Value.slice A3 xs.length c3).ownBlock = some k → w.heap.size ≤ k := fun k hk => (hlo k hk).1
      have HO5 : Hid (w5.ownsRow w.heap.size 33 2 (.slice A5 (xs ++ [y]).length c5) (xs ++ [y]).length ((xs ++ [y]).flatMap vsValue)) := by
        unfold Hid
        have h3 : (xs ++ [y]).flatMap vsValue = xs.flatMap vsValue ++ [y].flatMap vsValue := List.flatMap_append ..
        rw [h3, List.length_append]; exact ho5
      have HC5 := Lib.hid ((HCc.out.below ((Below.refl _ _).alloc (Nat.le_refl _) (.cells (vsValue y).toArray 33))).chg (grown_chg hg5) (fun k h => by have := hlo2 _ h; omega) (fun h => by have := hlo2 _ h; omega))
      have HG5 := Lib.hid ((HGc.out.alloc (.cells (vsValue y).toArray 33)).then_ (grown_chg hg5) (fun k hk h => by have := hlo2 _ h; omega))
      clear ho5 hg5 hlo2
      go_wp2_with fail
      go_roundw
      case rel => exact ⟨i - 1, xs ++ [y], A5, c5, by rw [show ((i - 1 : Nat) : Int) = (i : Int) - 1 from by omega], by rw [List.length_append]; rfl, by rw [List.length_append]; simp; omega, HO5, HC5, HG5⟩
      case measure => simp [intOf]; omega
    · go_wp2
      go_ret
      exact ⟨xs, A3, c3, rfl, by omega, HO.out, HC.out, HG.out⟩

end Go.Proofs.Ytaalbbhebmpppaa
