import Derived.Test.YtiohoeafdaihpaaProg
import Derived.Test.YtiohoeafdaihpaaTypes
import Derived.StillTailTactics
import Derived.Deep.RegionHeld3
import Derived.Laws.IdiomStrings
import Derived.Test.YtiohoeafdaihpaaAppend
import Derived.Laws.StructEq
import Derived.Lib.SliceRun
import Derived.Shelf.RegionOpenPlain
namespace Go.Proofs.Ytiohoeafdaihpaa
open Go.RowKit
set_option linter.unusedVariables false
set_option linter.unusedSimpArgs false

set_option maxHeartbeats 800000 in
set_option maxRecDepth 100000 in
theorem toInstr_calls (us : List Value) (x : GInstr) (w : World) (hr : RdLW w (eInstr x) us) :
    Calls Try.prog 70 #[.agg us.toArray] w fun e w' => ∃ us' fp, e = .returned (.agg us'.toArray) ∧ OwnL w' (eInstr x) us' fp ∧ Fresh w fp ∧ Below w.heap.size w w' := by
  obtain rfl := rd_eInstr hr
  go_enter Try.func70, Try.ntmps70
  go_wp2
  refine bodyPost_ret (v := .agg #[.int .i64 x.Op, .int .i64 x.A, .int .i64 x.B, .int .i64 x.C, .int .i64 x.D, .string x.Name]) (by simp [results, Try.results70, go_sem]) rfl ⟨_, _, rfl, mkown_eInstr, Fresh.nil _, ?_⟩
  exact (((Below.refl _ _).alloc (Nat.le_refl _) _).alloc (by simp) _).alloc (by simp; omega) _

set_option maxHeartbeats 800000 in
set_option maxRecDepth 100000 in
theorem toInstrS_calls (xs : List GInstr) (v : Value) (w : World) (hr : RdW w (.s xs.length (xs.flatMap eInstr)) v) (hn : xs.length ≤ 1048576) :
    Calls Try.prog 30 #[v] w fun e w' => ∃ v' fp, e = .returned v' ∧ Own w' (.s xs.length (xs.flatMap eInstr)) v' fp ∧ Fresh w fp ∧ Below w.heap.size w w' := by
  obtain ⟨A, c, rfl, ⟨_, _, hl⟩⟩ := hr.slice
  have HR := Lib.hid hr
  clear hr
  have hn1 : xs.length ≤ 1048576 := by omega
  obtain ⟨cs0, hcs, hmk⟩ := run_make_any (P := Try.prog) 27 47 56 6 Try.underlying27 ⟨_, _, rfl, rfl, rfl, rfl⟩ xs.length (by omega) (by omega)
  have HCS := Lib.hid hcs
  clear hcs
  go_enter Try.func30, Try.ntmps30
  go_wp2
  go_loopw [4] (fun a wr => ∃ i : Nat, i ≤ xs.length ∧ a = .int .i64 i ∧ w.heap.size < wr.heap.size ∧ Hid (ToI eInstr 6 xs w wr i)) (fun a wr => xs.length - (intOf a).toNat)
  case atStart => exact ⟨0, by omega, rfl, by simp, ToI.start HCS.out⟩
  case round =>
    obtain ⟨i, hi, rfl, hgz, HI⟩ := hrel
    by_cases hlt : i < xs.length
    · obtain ⟨x, hx⟩ : ∃ x, xs[i]? = some x := ⟨xs[i], List.getElem?_eq_getElem hlt⟩
      obtain ⟨ad, rfl, hadb, h0, h1, h2, h3, h4, h5⟩ := row_eInstr (HR.out.below HI.out.below) hx
      have HX := Lib.hid hx
      clear hx
      go_wp2_with fail
      refine (toInstr_calls _ x _ (mkrd_eInstr)).mono ?_
      rintro e w1 ⟨us', fp', rfl, ho, hf, hb1⟩
      have HB1 := Lib.hid hb1
      have HO := Lib.hid ho
      have HF := Lib.hid hf
      obtain ⟨rfl, rfl⟩ := own_eInstr ho
      clear ho hf hb1
      obtain ⟨y0, c0, q0⟩ := HI.out.get HB1.out 0 hlt (by omega)
      obtain ⟨y1, c1, q1⟩ := HI.out.get HB1.out 1 hlt (by omega)
      obtain ⟨y2, c2, q2⟩ := HI.out.get HB1.out 2 hlt (by omega)
      obtain ⟨y3, c3, q3⟩ := HI.out.get HB1.out 3 hlt (by omega)
      obtain ⟨y4, c4, q4⟩ := HI.out.get HB1.out 4 hlt (by omega)
      obtain ⟨y5, c5, q5⟩ := HI.out.get HB1.out 5 hlt (by omega)
      rw [Nat.add_zero] at c0 q0
      have hgz1 : w.heap.size < w1.heap.size := Nat.lt_of_lt_of_le hgz HB1.out.size
      go_wp2
      go_roundw
      case rel =>
        have hst := HI.out.step HX.out HB1.out len_eInstr HO.out HF.out
        simp only [putRow, Nat.add_assoc, Nat.reduceAdd] at hst
        exact ⟨i + 1, by omega, by go_num, by simpa [World.setCell] using hgz1, hst⟩
      case measure => simp [intOf]; omega
    · have : i = xs.length := by omega
      subst this
      go_wp2
      go_ret
      obtain ⟨fp, ho, hf, hb⟩ := HI.out.finish hn1
      exact ⟨_, fp, rfl, ho, hf, hb⟩

set_option maxHeartbeats 800000 in
set_option maxRecDepth 100000 in
theorem eqInstr_calls (us us' : List Value) (x : GInstr) (w : World) (hr : RdLW w (eInstr x) us) (hr' : RdLW w (eInstr x) us') :
    Calls Try.prog 71 #[.agg us.toArray, .agg us'.toArray] w fun e w' => e = .returned (.bool true) ∧ Below w.heap.size w w' := by
  obtain rfl := rd_eInstr hr
  obtain rfl := rd_eInstr hr'
  clear hr hr'
  go_enter Try.func71, Try.ntmps71
  go_wp2
  go_ret
  exact ⟨rfl, ((Below.refl _ _).alloc (Nat.le_refl _) _).alloc (by simp) _⟩

set_option maxHeartbeats 800000 in
set_option maxRecDepth 100000 in
theorem eqInstrS_calls (xs : List GInstr) (v v' : Value) (w : World) (hr : RdW w (.s xs.length (xs.flatMap eInstr)) v) (hr' : RdW w (.s xs.length (xs.flatMap eInstr)) v') :
    Calls Try.prog 32 #[v, v'] w fun e w' => e = .returned (.bool true) ∧ Below w.heap.size w w' := by
  obtain ⟨A, c, rfl, ⟨_, _, hl⟩⟩ := hr.slice
  obtain ⟨A', c', rfl, _⟩ := hr'.slice
  have HR := Lib.hid hr
  have HR' := Lib.hid hr'
  clear hr hr'
  go_enter Try.func32, Try.ntmps32
  go_wp2
  go_loopw [5] (fun a wr => ∃ i : Nat, i ≤ xs.length ∧ a = .int .i64 i ∧ Hid (Below w.heap.size w wr)) (fun a wr => xs.length - (intOf a).toNat)
  case atStart => exact ⟨0, by omega, rfl, Below.refl _ w⟩
  case round =>
    obtain ⟨i, hi, rfl, HB⟩ := hrel
    by_cases hlt : i < xs.length
    · obtain ⟨x, hx⟩ : ∃ x, xs[i]? = some x := ⟨xs[i], List.getElem?_eq_getElem hlt⟩
      obtain ⟨ad, rfl, hadb, h0, h1, h2, h3, h4, h5⟩ := row_eInstr (HR.out.below HB.out) hx
      obtain ⟨ad', rfl, hadb', h0', h1', h2', h3', h4', h5'⟩ := row_eInstr (HR'.out.below HB.out) hx
      have HX := Lib.hid hx
      clear hx
      go_wp2
      go_still_tail 8, (by kernel_rfl)
      change wpList _ _ _ _ _ wr.drew
      go_wp2_with fail
      refine (eqInstr_calls _ _ x _ (mkrd_eInstr) (mkrd_eInstr)).mono ?_
      rintro e w1 ⟨rfl, hb1⟩
      have HB1 := Lib.hid hb1
      clear hb1
      go_wp2
      go_roundw
      case rel => exact ⟨i + 1, by omega, by go_num, HB.out.drew.trans (HB1.out.mono HB.out.drew.size)⟩
      case measure => simp [intOf]; omega
    · have : i = xs.length := by omega
      subst this
      go_wp2
      go_ret
      exact ⟨rfl, HB.out⟩

set_option maxHeartbeats 800000 in
set_option maxRecDepth 100000 in
theorem szInstr_calls (us : List Value) (x : GInstr) (left : Int) (w : World) (hr : RdLW w (eInstr x) us) (hstr : StrOkL (eInstr x)) (h0 : 0 ≤ left) (h1 : left ≤ 1048576) :
    Calls Try.prog 67 #[.agg us.toArray, .int .i64 left] w fun e w' => ∃ r : Int, e = .returned (.int .i64 r) ∧ SzR r left (sizL (eInstr x)) ∧ Below w.heap.size w w' := by
  rw [siz_eInstr]
  obtain rfl := rd_eInstr hr
  clear hr
  have t5 := str_eInstr hstr
  clear hstr
  go_enter Try.func67, Try.ntmps67
  by_cases hl5 : left - x.Name.size < 0
  · go_wp2
    go_ret
    exact ⟨_, rfl, .inl rfl, ((Below.refl _ _).alloc (Nat.le_refl _) _)⟩
  have hm5 : 0 ≤ left - x.Name.size := by omega
  have hM5 : left - x.Name.size ≤ 1048576 := by omega
  go_wp2
  go_ret
  exact ⟨_, rfl, .inr ⟨by omega, by omega⟩, (Below.refl _ _).alloc (Nat.le_refl _) _⟩

set_option maxHeartbeats 800000 in
set_option maxRecDepth 100000 in
theorem szInstrS_calls (xs : List GInstr) (v : Value) (left : Int) (w : World) (hr : RdW w (.s xs.length (xs.flatMap eInstr)) v) (hstr : StrOkL (xs.flatMap eInstr)) (h0 : 0 ≤ left) (h1 : left ≤ 1048576) :
    Calls Try.prog 28 #[v, .int .i64 left] w fun e w' => ∃ r : Int, e = .returned (.int .i64 r) ∧ SzR r left (xs.length + sizL (xs.flatMap eInstr)) ∧ Below w.heap.size w w' := by
  obtain ⟨A, c, rfl, ⟨_, _, hl⟩⟩ := hr.slice
  have HR := Lib.hid hr
  clear hr
  by_cases hlt : left - xs.length < 0
  · go_enter Try.func28, Try.ntmps28
    go_wp2
    go_ret
    exact ⟨_, rfl, .inl rfl, Below.refl _ w⟩
  · go_enter Try.func28, Try.ntmps28
    go_wp2
    go_loopw [1, 5] (fun a b wr => ∃ (i : Nat) (q : Int), i ≤ xs.length ∧ b = .int .i64 i ∧ a = .int .i64 q ∧ 0 ≤ q ∧ q ≤ 1048576 ∧ Hid (q = left - xs.length - sizL ((xs.take i).flatMap eInstr)) ∧ Hid (Below w.heap.size w wr)) (fun a b wr => xs.length - (intOf b).toNat)
    case atStart => exact ⟨0, _, by omega, rfl, rfl, by omega, by omega, by simp [sizL_nil, Hid], Below.refl _ w⟩
    case round =>
      obtain ⟨i, q, hi, rfl, rfl, hq0, hq9, HQ, HB⟩ := hrel
      by_cases hlt : i < xs.length
      · obtain ⟨x, hx⟩ : ∃ x, xs[i]? = some x := ⟨xs[i], List.getElem?_eq_getElem hlt⟩
        obtain ⟨ad, rfl, hadb, h0, h1, h2, h3, h4, h5⟩ := row_eInstr (HR.out.below HB.out) hx
        have HX := Lib.hid hx
        clear hx
        go_wp2_with fail
        refine (szInstr_calls _ x _ _ (mkrd_eInstr) (StrOkL_mem hstr (List.mem_of_getElem? HX.out)) hq0 hq9).mono ?_
        rintro e w1 ⟨r, rfl, hr, hb1⟩
        have HB1 := Lib.hid hb1
        clear hb1
        have hq := HQ.out
        have hs1 := siz_step eInstr xs i x HX.out
        have hs2 := siz_take_le eInstr xs (i + 1)
        rcases hr with rfl | ⟨hr, hr0⟩
        · go_wp2
          go_ret
          exact ⟨_, rfl, .inl rfl, HB.out.trans (HB1.out.mono HB.out.size)⟩
        · have hr9 : r ≤ 1048576 := by omega
          have HQ2 : Hid (r = left - xs.length - sizL ((xs.take (i + 1)).flatMap eInstr)) := by unfold Hid; omega
          clear hr hs1 hs2 hq
          go_wp2
          go_roundw
          case rel => exact ⟨i + 1, r, by omega, by go_num, rfl, hr0, hr9, HQ2, HB.out.trans (HB1.out.mono HB.out.size)⟩
          case measure => simp [intOf]; omega
      · have : i = xs.length := by omega
        subst this
        have hq := HQ.out
        rw [List.take_length] at hq
        have HQ2 := Lib.hid hq
        clear hq
        go_wp2
        go_ret
        exact ⟨_, rfl, .inr ⟨by have := HQ2.out; omega, hq0⟩, HB.out⟩

set_option maxHeartbeats 800000 in
set_option maxRecDepth 100000 in
theorem toMethod_calls (us : List Value) (x : GMethod) (w : World) (hr : RdLW w (eMethod x) us) (hz : sizL (eMethod x) ≤ 1048576) :
    Calls Try.prog 8 #[.agg us.toArray] w fun e w' => ∃ us' fp, e = .returned (.agg us'.toArray) ∧ OwnL w' (eMethod x) us' fp ∧ Fresh w fp ∧ Below w.heap.size w w' := by
  rw [siz_eMethod] at hz
  obtain ⟨v1, rfl, h1⟩ := rd_eMethod hr
  clear hr
  have H1 := Lib.hid h1
  clear h1
  go_enter Try.func8, Try.ntmps8
  go_wp2_with fail
  refine (toInstrS_calls _ _ _ (H1.out.below ?hbel1) (by omega)).mono ?_
  case hbel1 => exact ((((Below.refl _ _).alloc (Nat.le_refl _) _).alloc (by simp) _).alloc (by simp; omega) _)
  rintro e w1 ⟨u1, f1, rfl, o1, n1, hb1⟩
  obtain ⟨A1, c1, rfl, _⟩ := o1.slice
  have Z1 := Lib.hid hb1
  have S1 : w.heap.size + 3 ≤ w1.heap.size := by have h := hb1.size; simp only [size_set, size_alloc] at h; omega
  have hz1_0 : w.heap.size < w1.heap.size := by omega
  have hz1_1 : w.heap.size + 1 < w1.heap.size := by omega
  have hz1_2 : w.heap.size + 1 + 1 < w1.heap.size := by omega
  have B1 : Hid (Below w.heap.size w w1) := by
    refine Below.trans ?_ (hb1.mono (by simp only [size_set, size_alloc]; omega))
    exact ((((Below.refl _ _).alloc (Nat.le_refl _) _).alloc (by simp) _).alloc (by simp; omega) _)
  have KA1 : Hid (Blk w1 (w.heap.size) 24 #[.string x.Name, v1]) := by
    refine Blk.below ?_ hb1
    exact ((Blk.made rfl).alloc _).alloc _
  have KO1 : Hid (Blk w1 (w.heap.size + 1 + 1) 29 #[.string x.Name, .slice none 0 0]) := by
    refine Blk.below ?_ hb1
    exact Blk.made (by simp)
  have KR1 : Hid (Blk w1 (w.heap.size + 1) 29 #[.string ⟨#[]⟩, .slice none 0 0]) := by
    refine Blk.below ?_ hb1
    exact (Blk.made (by simp)).alloc _
  obtain ⟨ca1, fa1⟩ := KA1.out.rules
  obtain ⟨co1, fo1⟩ := KO1.out.rules
  obtain ⟨cr1, fr1⟩ := KR1.out.rules
  clear hb1
  have O1 := Lib.hid o1
  clear o1
  have N1 := Lib.hid n1
  clear n1
  go_wp2
  refine post_cell (w0 := w1) (fun g => w.heap.size ≤ g ∧ g < w.heap.size + 3) Try.results8 (w.heap.size + 1) #[.string x.Name, .slice A1 x.Code.length c1] _ rfl (Blk.eq (((KR1.out.far (by dsimp only; omega) _).set_ 0 _).set_ 1 _) (by simp)) Try.underlying29 rfl (by kernel_rfl) rfl ((((Chg.refl _ _).setCell (.inl (by dsimp only; omega)) _).setCell (.inl (by dsimp only; omega)) _).setCell (.inl (by dsimp only; omega)) _) ?_
  intro W hW
  have F1 : ∀ g, g ∈ f1 → w.heap.size + 2 < g := fun g hg => by have h1 := N1.out.2 g hg; simp only [size_set, size_alloc] at h1; omega
  have P1 := O1.out
  refine ⟨_, _, rfl, mkown_eMethod (P1.chg hW (fun g hg => by have := F1 g hg; show ¬ (_ ∧ _); omega)), ?_, ?_⟩
  · skip
    have V1 : Fresh w f1 := N1.out.mono (by simp only [size_set, size_alloc]; omega)
    have L1 : ∀ g, g ∈ f1 → g < w1.heap.size := Own.lt _ _ _ O1.out
    exact V1
  · exact below_chg B1.out hW B1.out.size (fun i hi => hi.1)

set_option maxHeartbeats 800000 in
set_option maxRecDepth 100000 in
theorem toMethodS_calls (xs : List GMethod) (v : Value) (w : World) (hr : RdW w (.s xs.length (xs.flatMap eMethod)) v) (hn : xs.length + sizL (xs.flatMap eMethod) ≤ 1048576) :
    Calls Try.prog 74 #[v] w fun e w' => ∃ v' fp, e = .returned v' ∧ Own w' (.s xs.length (xs.flatMap eMethod)) v' fp ∧ Fresh w fp ∧ Below w.heap.size w w' := by
  obtain ⟨A, c, rfl, ⟨_, _, hl⟩⟩ := hr.slice
  have HR := Lib.hid hr
  clear hr
  have hn1 : xs.length ≤ 1048576 := by omega
  obtain ⟨cs0, hcs, hmk⟩ := run_make_any (P := Try.prog) 49 29 40 2 Try.underlying49 ⟨_, _, rfl, rfl, rfl, rfl⟩ xs.length (by omega) (by omega)
  have HCS := Lib.hid hcs
  clear hcs
  go_enter Try.func74, Try.ntmps74
  go_wp2
  go_loopw [4] (fun a wr => ∃ i : Nat, i ≤ xs.length ∧ a = .int .i64 i ∧ w.heap.size < wr.heap.size ∧ Hid (ToI eMethod 2 xs w wr i)) (fun a wr => xs.length - (intOf a).toNat)
  case atStart => exact ⟨0, by omega, rfl, by simp, ToI.start HCS.out⟩
  case round =>
    obtain ⟨i, hi, rfl, hgz, HI⟩ := hrel
    by_cases hlt : i < xs.length
    · obtain ⟨x, hx⟩ : ∃ x, xs[i]? = some x := ⟨xs[i], List.getElem?_eq_getElem hlt⟩
      obtain ⟨ad, v1, rfl, hadb, h0, h1, k1⟩ := row_eMethod (HR.out.below HI.out.below) hx
      have hzx : sizL (eMethod x) ≤ 1048576 := by have := sizL_flat_le eMethod xs x (List.mem_of_getElem? hx); omega
      have HX := Lib.hid hx
      clear hx
      go_wp2_with fail
      refine (toMethod_calls _ x _ (mkrd_eMethod k1) hzx).mono ?_
      rintro e w1 ⟨us', fp', rfl, ho, hf, hb1⟩
      have HB1 := Lib.hid hb1
      have HO := Lib.hid ho
      have HF := Lib.hid hf
      obtain ⟨b1, f1, rfl, rfl, o1⟩ := own_eMethod ho
      obtain ⟨A1_, c1_, rfl, -⟩ := o1.slice
      clear ho hf hb1 o1
      obtain ⟨y0, c0, q0⟩ := HI.out.get HB1.out 0 hlt (by omega)
      obtain ⟨y1, c1, q1⟩ := HI.out.get HB1.out 1 hlt (by omega)
      rw [Nat.add_zero] at c0 q0
      have hgz1 : w.heap.size < w1.heap.size := Nat.lt_of_lt_of_le hgz HB1.out.size
      go_wp2
      go_roundw
      case rel =>
        have hst := HI.out.step HX.out HB1.out len_eMethod HO.out HF.out
        simp only [putRow, Nat.add_assoc, Nat.reduceAdd] at hst
        exact ⟨i + 1, by omega, by go_num, by simpa [World.setCell] using hgz1, hst⟩
      case measure => simp [intOf]; omega
    · have : i = xs.length := by omega
      subst this
      go_wp2
      go_ret
      obtain ⟨fp, ho, hf, hb⟩ := HI.out.finish hn1
      exact ⟨_, fp, rfl, ho, hf, hb⟩

set_option maxHeartbeats 800000 in
set_option maxRecDepth 100000 in
theorem eqMethod_calls (us us' : List Value) (x : GMethod) (w : World) (hr : RdLW w (eMethod x) us) (hr' : RdLW w (eMethod x) us') :
    Calls Try.prog 10 #[.agg us.toArray, .agg us'.toArray] w fun e w' => e = .returned (.bool true) ∧ Below w.heap.size w w' := by
  obtain ⟨v1, rfl, h1⟩ := rd_eMethod hr
  obtain ⟨v1', rfl, h1'⟩ := rd_eMethod hr'
  clear hr hr'
  have H1 := Lib.hid h1
  have H1' := Lib.hid h1'
  clear h1 h1'
  go_enter Try.func10, Try.ntmps10
  go_wp2_with fail
  refine (eqInstrS_calls _ _ _ _ (H1.out.below (((Below.refl _ _).alloc (Nat.le_refl _) _).alloc (by simp) _)) (H1'.out.below (((Below.refl _ _).alloc (Nat.le_refl _) _).alloc (by simp) _))).mono ?_
  rintro e w1 ⟨rfl, hb1⟩
  have hz1_0 : w.heap.size < w1.heap.size := by have := hb1.size; simp at this; omega
  have hz1_1 : w.heap.size + 1 < w1.heap.size := by have := hb1.size; simp at this; omega
  have B1 : Hid (Below w.heap.size w w1) := (((Below.refl _ _).alloc (Nat.le_refl _) _).alloc (by simp) _).trans (hb1.mono (by first | (simp; done) | (simp; omega)))
  obtain ⟨hc1, hf1⟩ := bcell hb1
  clear hb1
  go_wp2
  go_ret
  exact ⟨rfl, B1.out⟩

set_option maxHeartbeats 800000 in
set_option maxRecDepth 100000 in
theorem eqMethodS_calls (xs : List GMethod) (v v' : Value) (w : World) (hr : RdW w (.s xs.length (xs.flatMap eMethod)) v) (hr' : RdW w (.s xs.length (xs.flatMap eMethod)) v') :
    Calls Try.prog 79 #[v, v'] w fun e w' => e = .returned (.bool true) ∧ Below w.heap.size w w' := by
  obtain ⟨A, c, rfl, ⟨_, _, hl⟩⟩ := hr.slice
  obtain ⟨A', c', rfl, _⟩ := hr'.slice
  have HR := Lib.hid hr
  have HR' := Lib.hid hr'
  clear hr hr'
  go_enter Try.func79, Try.ntmps79
  go_wp2
  go_loopw [5] (fun a wr => ∃ i : Nat, i ≤ xs.length ∧ a = .int .i64 i ∧ Hid (Below w.heap.size w wr)) (fun a wr => xs.length - (intOf a).toNat)
  case atStart => exact ⟨0, by omega, rfl, Below.refl _ w⟩
  case round =>
    obtain ⟨i, hi, rfl, HB⟩ := hrel
    by_cases hlt : i < xs.length
    · obtain ⟨x, hx⟩ : ∃ x, xs[i]? = some x := ⟨xs[i], List.getElem?_eq_getElem hlt⟩
      obtain ⟨ad, v1, rfl, hadb, h0, h1, k1⟩ := row_eMethod (HR.out.below HB.out) hx
      obtain ⟨ad', v1', rfl, hadb', h0', h1', k1'⟩ := row_eMethod (HR'.out.below HB.out) hx
      have HX := Lib.hid hx
      clear hx
      go_wp2
      go_still_tail 8, (by kernel_rfl)
      change wpList _ _ _ _ _ wr.drew
      go_wp2_with fail
      refine (eqMethod_calls _ _ x _ (mkrd_eMethod k1.drew) (mkrd_eMethod k1'.drew)).mono ?_
      rintro e w1 ⟨rfl, hb1⟩
      have HB1 := Lib.hid hb1
      clear hb1
      go_wp2
      go_roundw
      case rel => exact ⟨i + 1, by omega, by go_num, HB.out.drew.trans (HB1.out.mono HB.out.drew.size)⟩
      case measure => simp [intOf]; omega
    · have : i = xs.length := by omega
      subst this
      go_wp2
      go_ret
      exact ⟨rfl, HB.out⟩

set_option maxHeartbeats 800000 in
set_option maxRecDepth 100000 in
theorem szMethod_calls (us : List Value) (x : GMethod) (left : Int) (w : World) (hr : RdLW w (eMethod x) us) (hstr : StrOkL (eMethod x)) (h0 : 0 ≤ left) (h1 : left ≤ 1048576) :
    Calls Try.prog 6 #[.agg us.toArray, .int .i64 left] w fun e w' => ∃ r : Int, e = .returned (.int .i64 r) ∧ SzR r left (sizL (eMethod x)) ∧ Below w.heap.size w w' := by
  rw [siz_eMethod]
  obtain ⟨v1, rfl, h1⟩ := rd_eMethod hr
  clear hr
  have H1 := Lib.hid h1
  clear h1
  obtain ⟨t0, t1⟩ := str_eMethod hstr
  have HT1 := Lib.hid t1
  clear t1
  clear hstr
  go_enter Try.func6, Try.ntmps6
  by_cases hl0 : left - x.Name.size < 0
  · go_wp2
    go_ret
    exact ⟨_, rfl, .inl rfl, ((Below.refl _ _).alloc (Nat.le_refl _) _)⟩
  have hm0 : 0 ≤ left - x.Name.size := by omega
  have hM0 : left - x.Name.size ≤ 1048576 := by omega
  go_wp2_with fail
  refine (szInstrS_calls _ _ _ _ (H1.out.below ((Below.refl _ _).alloc (Nat.le_refl _) _)) HT1.out (by omega) (by omega)).mono ?_
  rintro e w1 ⟨r1, rfl, hr1, hb1⟩
  have B1 : Blk w1 w.heap.size 24 #[.string x.Name, v1] := (Blk.new _ _ _).below hb1
  have D1 : Below w.heap.size w w1 := ((Below.refl _ _).alloc (Nat.le_refl _) _).trans (hb1.mono (by simp only [size_alloc]; omega))
  have HB1 := Lib.hid B1
  have HD1 := Lib.hid D1
  obtain ⟨cb1, fb1⟩ := B1.rules
  clear hb1 B1 D1
  rcases hr1 with rfl | ⟨hr1, hr1_0⟩
  · go_wp2
    go_ret
    exact ⟨_, rfl, .inl rfl, HD1.out⟩
  have hr1_9 : r1 ≤ 1048576 := by omega
  have HR1 := Lib.hid hr1
  clear hr1
  go_wp2
  go_ret
  exact ⟨_, rfl, .inr ⟨by have e1 := HR1.out; omega, by omega⟩, HD1.out⟩

set_option maxHeartbeats 800000 in
set_option maxRecDepth 100000 in
theorem szMethodS_calls (xs : List GMethod) (v : Value) (left : Int) (w : World) (hr : RdW w (.s xs.length (xs.flatMap eMethod)) v) (hstr : StrOkL (xs.flatMap eMethod)) (h0 : 0 ≤ left) (h1 : left ≤ 1048576) :
    Calls Try.prog 72 #[v, .int .i64 left] w fun e w' => ∃ r : Int, e = .returned (.int .i64 r) ∧ SzR r left (xs.length + sizL (xs.flatMap eMethod)) ∧ Below w.heap.size w w' := by
  obtain ⟨A, c, rfl, ⟨_, _, hl⟩⟩ := hr.slice
  have HR := Lib.hid hr
  clear hr
  by_cases hlt : left - xs.length < 0
  · go_enter Try.func72, Try.ntmps72
    go_wp2
    go_ret
    exact ⟨_, rfl, .inl rfl, Below.refl _ w⟩
  · go_enter Try.func72, Try.ntmps72
    go_wp2
    go_loopw [1, 5] (fun a b wr => ∃ (i : Nat) (q : Int), i ≤ xs.length ∧ b = .int .i64 i ∧ a = .int .i64 q ∧ 0 ≤ q ∧ q ≤ 1048576 ∧ Hid (q = left - xs.length - sizL ((xs.take i).flatMap eMethod)) ∧ Hid (Below w.heap.size w wr)) (fun a b wr => xs.length - (intOf b).toNat)
    case atStart => exact ⟨0, _, by omega, rfl, rfl, by omega, by omega, by simp [sizL_nil, Hid], Below.refl _ w⟩
    case round =>
      obtain ⟨i, q, hi, rfl, rfl, hq0, hq9, HQ, HB⟩ := hrel
      by_cases hlt : i < xs.length
      · obtain ⟨x, hx⟩ : ∃ x, xs[i]? = some x := ⟨xs[i], List.getElem?_eq_getElem hlt⟩
        obtain ⟨ad, v1, rfl, hadb, h0, h1, k1⟩ := row_eMethod (HR.out.below HB.out) hx
        have HX := Lib.hid hx
        clear hx
        go_wp2_with fail
        refine (szMethod_calls _ x _ _ (mkrd_eMethod k1) (StrOkL_mem hstr (List.mem_of_getElem? HX.out)) hq0 hq9).mono ?_
        rintro e w1 ⟨r, rfl, hr, hb1⟩
        have HB1 := Lib.hid hb1
        clear hb1
        have hq := HQ.out
        have hs1 := siz_step eMethod xs i x HX.out
        have hs2 := siz_take_le eMethod xs (i + 1)
        rcases hr with rfl | ⟨hr, hr0⟩
        · go_wp2
          go_ret
          exact ⟨_, rfl, .inl rfl, HB.out.trans (HB1.out.mono HB.out.size)⟩
        · have hr9 : r ≤ 1048576 := by omega
          have HQ2 : Hid (r = left - xs.length - sizL ((xs.take (i + 1)).flatMap eMethod)) := by unfold Hid; omega
          clear hr hs1 hs2 hq
          go_wp2
          go_roundw
          case rel => exact ⟨i + 1, r, by omega, by go_num, rfl, hr0, hr9, HQ2, HB.out.trans (HB1.out.mono HB.out.size)⟩
          case measure => simp [intOf]; omega
      · have : i = xs.length := by omega
        subst this
        have hq := HQ.out
        rw [List.take_length] at hq
        have HQ2 := Lib.hid hq
        clear hq
        go_wp2
        go_ret
        exact ⟨_, rfl, .inr ⟨by have := HQ2.out; omega, hq0⟩, HB.out⟩

set_option maxHeartbeats 800000 in
set_option maxRecDepth 100000 in
theorem toScript_calls (us : List Value) (x : GScript) (w : World) (hr : RdLW w (eScript x) us) (hz : sizL (eScript x) ≤ 1048576) :
    Calls Try.prog 35 #[.agg us.toArray] w fun e w' => ∃ us' fp, e = .returned (.agg us'.toArray) ∧ OwnL w' (eScript x) us' fp ∧ Fresh w fp ∧ Below w.heap.size w w' := by
  rw [siz_eScript] at hz
  obtain ⟨v1, rfl, h1⟩ := rd_eScript hr
  clear hr
  have H1 := Lib.hid h1
  clear h1
  go_enter Try.func35, Try.ntmps35
  go_wp2_with fail
  refine (toMethodS_calls _ _ _ (H1.out.below ?hbel1) (by omega)).mono ?_
  case hbel1 => exact ((((Below.refl _ _).alloc (Nat.le_refl _) _).alloc (by simp) _).alloc (by simp; omega) _)
  rintro e w1 ⟨u1, f1, rfl, o1, n1, hb1⟩
  obtain ⟨A1, c1, rfl, _⟩ := o1.slice
  have Z1 := Lib.hid hb1
  have S1 : w.heap.size + 3 ≤ w1.heap.size := by have h := hb1.size; simp only [size_set, size_alloc] at h; omega
  have hz1_0 : w.heap.size < w1.heap.size := by omega
  have hz1_1 : w.heap.size + 1 < w1.heap.size := by omega
  have hz1_2 : w.heap.size + 1 + 1 < w1.heap.size := by omega
  have B1 : Hid (Below w.heap.size w w1) := by
    refine Below.trans ?_ (hb1.mono (by simp only [size_set, size_alloc]; omega))
    exact ((((Below.refl _ _).alloc (Nat.le_refl _) _).alloc (by simp) _).alloc (by simp; omega) _)
  have KA1 : Hid (Blk w1 (w.heap.size) 61 #[.string x.Name, v1]) := by
    refine Blk.below ?_ hb1
    exact ((Blk.made rfl).alloc _).alloc _
  have KO1 : Hid (Blk w1 (w.heap.size + 1 + 1) 51 #[.string x.Name, .slice none 0 0]) := by
    refine Blk.below ?_ hb1
    exact Blk.made (by simp)
  have KR1 : Hid (Blk w1 (w.heap.size + 1) 51 #[.string ⟨#[]⟩, .slice none 0 0]) := by
    refine Blk.below ?_ hb1
    exact (Blk.made (by simp)).alloc _
  obtain ⟨ca1, fa1⟩ := KA1.out.rules
  obtain ⟨co1, fo1⟩ := KO1.out.rules
  obtain ⟨cr1, fr1⟩ := KR1.out.rules
  clear hb1
  have O1 := Lib.hid o1
  clear o1
  have N1 := Lib.hid n1
  clear n1
  go_wp2
  refine post_cell (w0 := w1) (fun g => w.heap.size ≤ g ∧ g < w.heap.size + 3) Try.results35 (w.heap.size + 1) #[.string x.Name, .slice A1 x.Methods.length c1] _ rfl (Blk.eq (((KR1.out.far (by dsimp only; omega) _).set_ 0 _).set_ 1 _) (by simp)) Try.underlying51 rfl (by kernel_rfl) rfl ((((Chg.refl _ _).setCell (.inl (by dsimp only; omega)) _).setCell (.inl (by dsimp only; omega)) _).setCell (.inl (by dsimp only; omega)) _) ?_
  intro W hW
  have F1 : ∀ g, g ∈ f1 → w.heap.size + 2 < g := fun g hg => by have h1 := N1.out.2 g hg; simp only [size_set, size_alloc] at h1; omega
  have P1 := O1.out
  refine ⟨_, _, rfl, mkown_eScript (P1.chg hW (fun g hg => by have := F1 g hg; show ¬ (_ ∧ _); omega)), ?_, ?_⟩
  · skip
    have V1 : Fresh w f1 := N1.out.mono (by simp only [size_set, size_alloc]; omega)
    have L1 : ∀ g, g ∈ f1 → g < w1.heap.size := Own.lt _ _ _ O1.out
    exact V1
  · exact below_chg B1.out hW B1.out.size (fun i hi => hi.1)

set_option maxHeartbeats 800000 in
set_option maxRecDepth 100000 in
theorem toScriptS_calls (xs : List GScript) (v : Value) (w : World) (hr : RdW w (.s xs.length (xs.flatMap eScript)) v) (hn : xs.length + sizL (xs.flatMap eScript) ≤ 1048576) :
    Calls Try.prog 13 #[v] w fun e w' => ∃ v' fp, e = .returned v' ∧ Own w' (.s xs.length (xs.flatMap eScript)) v' fp ∧ Fresh w fp ∧ Below w.heap.size w w' := by
  obtain ⟨A, c, rfl, ⟨_, _, hl⟩⟩ := hr.slice
  have HR := Lib.hid hr
  clear hr
  have hn1 : xs.length ≤ 1048576 := by omega
  obtain ⟨cs0, hcs, hmk⟩ := run_make_any (P := Try.prog) 36 51 40 2 Try.underlying36 ⟨_, _, rfl, rfl, rfl, rfl⟩ xs.length (by omega) (by omega)
  have HCS := Lib.hid hcs
  clear hcs
  go_enter Try.func13, Try.ntmps13
  go_wp2
  go_loopw [4] (fun a wr => ∃ i : Nat, i ≤ xs.length ∧ a = .int .i64 i ∧ w.heap.size < wr.heap.size ∧ Hid (ToI eScript 2 xs w wr i)) (fun a wr => xs.length - (intOf a).toNat)
  case atStart => exact ⟨0, by omega, rfl, by simp, ToI.start HCS.out⟩
  case round =>
    obtain ⟨i, hi, rfl, hgz, HI⟩ := hrel
    by_cases hlt : i < xs.length
    · obtain ⟨x, hx⟩ : ∃ x, xs[i]? = some x := ⟨xs[i], List.getElem?_eq_getElem hlt⟩
      obtain ⟨ad, v1, rfl, hadb, h0, h1, k1⟩ := row_eScript (HR.out.below HI.out.below) hx
      have hzx : sizL (eScript x) ≤ 1048576 := by have := sizL_flat_le eScript xs x (List.mem_of_getElem? hx); omega
      have HX := Lib.hid hx
      clear hx
      go_wp2_with fail
      refine (toScript_calls _ x _ (mkrd_eScript k1) hzx).mono ?_
      rintro e w1 ⟨us', fp', rfl, ho, hf, hb1⟩
      have HB1 := Lib.hid hb1
      have HO := Lib.hid ho
      have HF := Lib.hid hf
      obtain ⟨b1, f1, rfl, rfl, o1⟩ := own_eScript ho
      obtain ⟨A1_, c1_, rfl, -⟩ := o1.slice
      clear ho hf hb1 o1
      obtain ⟨y0, c0, q0⟩ := HI.out.get HB1.out 0 hlt (by omega)
      obtain ⟨y1, c1, q1⟩ := HI.out.get HB1.out 1 hlt (by omega)
      rw [Nat.add_zero] at c0 q0
      have hgz1 : w.heap.size < w1.heap.size := Nat.lt_of_lt_of_le hgz HB1.out.size
      go_wp2
      go_roundw
      case rel =>
        have hst := HI.out.step HX.out HB1.out len_eScript HO.out HF.out
        simp only [putRow, Nat.add_assoc, Nat.reduceAdd] at hst
        exact ⟨i + 1, by omega, by go_num, by simpa [World.setCell] using hgz1, hst⟩
      case measure => simp [intOf]; omega
    · have : i = xs.length := by omega
      subst this
      go_wp2
      go_ret
      obtain ⟨fp, ho, hf, hb⟩ := HI.out.finish hn1
      exact ⟨_, fp, rfl, ho, hf, hb⟩

set_option maxHeartbeats 800000 in
set_option maxRecDepth 100000 in
theorem eqScript_calls (us us' : List Value) (x : GScript) (w : World) (hr : RdLW w (eScript x) us) (hr' : RdLW w (eScript x) us') :
    Calls Try.prog 37 #[.agg us.toArray, .agg us'.toArray] w fun e w' => e = .returned (.bool true) ∧ Below w.heap.size w w' := by
  obtain ⟨v1, rfl, h1⟩ := rd_eScript hr
  obtain ⟨v1', rfl, h1'⟩ := rd_eScript hr'
  clear hr hr'
  have H1 := Lib.hid h1
  have H1' := Lib.hid h1'
  clear h1 h1'
  go_enter Try.func37, Try.ntmps37
  go_wp2_with fail
  refine (eqMethodS_calls _ _ _ _ (H1.out.below (((Below.refl _ _).alloc (Nat.le_refl _) _).alloc (by simp) _)) (H1'.out.below (((Below.refl _ _).alloc (Nat.le_refl _) _).alloc (by simp) _))).mono ?_
  rintro e w1 ⟨rfl, hb1⟩
  have hz1_0 : w.heap.size < w1.heap.size := by have := hb1.size; simp at this; omega
  have hz1_1 : w.heap.size + 1 < w1.heap.size := by have := hb1.size; simp at this; omega
  have B1 : Hid (Below w.heap.size w w1) := (((Below.refl _ _).alloc (Nat.le_refl _) _).alloc (by simp) _).trans (hb1.mono (by first | (simp; done) | (simp; omega)))
  obtain ⟨hc1, hf1⟩ := bcell hb1
  clear hb1
  go_wp2
  go_ret
  exact ⟨rfl, B1.out⟩

set_option maxHeartbeats 800000 in
set_option maxRecDepth 100000 in
theorem eqScriptS_calls (xs : List GScript) (v v' : Value) (w : World) (hr : RdW w (.s xs.length (xs.flatMap eScript)) v) (hr' : RdW w (.s xs.length (xs.flatMap eScript)) v') :
    Calls Try.prog 15 #[v, v'] w fun e w' => e = .returned (.bool true) ∧ Below w.heap.size w w' := by
  obtain ⟨A, c, rfl, ⟨_, _, hl⟩⟩ := hr.slice
  obtain ⟨A', c', rfl, _⟩ := hr'.slice
  have HR := Lib.hid hr
  have HR' := Lib.hid hr'
  clear hr hr'
  go_enter Try.func15, Try.ntmps15
  go_wp2
  go_loopw [5] (fun a wr => ∃ i : Nat, i ≤ xs.length ∧ a = .int .i64 i ∧ Hid (Below w.heap.size w wr)) (fun a wr => xs.length - (intOf a).toNat)
  case atStart => exact ⟨0, by omega, rfl, Below.refl _ w⟩
  case round =>
    obtain ⟨i, hi, rfl, HB⟩ := hrel
    by_cases hlt : i < xs.length
    · obtain ⟨x, hx⟩ : ∃ x, xs[i]? = some x := ⟨xs[i], List.getElem?_eq_getElem hlt⟩
      obtain ⟨ad, v1, rfl, hadb, h0, h1, k1⟩ := row_eScript (HR.out.below HB.out) hx
      obtain ⟨ad', v1', rfl, hadb', h0', h1', k1'⟩ := row_eScript (HR'.out.below HB.out) hx
      have HX := Lib.hid hx
      clear hx
      go_wp2
      go_still_tail 8, (by kernel_rfl)
      change wpList _ _ _ _ _ wr.drew
      go_wp2_with fail
      refine (eqScript_calls _ _ x _ (mkrd_eScript k1.drew) (mkrd_eScript k1'.drew)).mono ?_
      rintro e w1 ⟨rfl, hb1⟩
      have HB1 := Lib.hid hb1
      clear hb1
      go_wp2
      go_roundw
      case rel => exact ⟨i + 1, by omega, by go_num, HB.out.drew.trans (HB1.out.mono HB.out.drew.size)⟩
      case measure => simp [intOf]; omega
    · have : i = xs.length := by omega
      subst this
      go_wp2
      go_ret
      exact ⟨rfl, HB.out⟩

set_option maxHeartbeats 800000 in
set_option maxRecDepth 100000 in
theorem szScript_calls (us : List Value) (x : GScript) (left : Int) (w : World) (hr : RdLW w (eScript x) us) (hstr : StrOkL (eScript x)) (h0 : 0 ≤ left) (h1 : left ≤ 1048576) :
    Calls Try.prog 33 #[.agg us.toArray, .int .i64 left] w fun e w' => ∃ r : Int, e = .returned (.int .i64 r) ∧ SzR r left (sizL (eScript x)) ∧ Below w.heap.size w w' := by
  rw [siz_eScript]
  obtain ⟨v1, rfl, h1⟩ := rd_eScript hr
  clear hr
  have H1 := Lib.hid h1
  clear h1
  obtain ⟨t0, t1⟩ := str_eScript hstr
  have HT1 := Lib.hid t1
  clear t1
  clear hstr
  go_enter Try.func33, Try.ntmps33
  by_cases hl0 : left - x.Name.size < 0
  · go_wp2
    go_ret
    exact ⟨_, rfl, .inl rfl, ((Below.refl _ _).alloc (Nat.le_refl _) _)⟩
  have hm0 : 0 ≤ left - x.Name.size := by omega
  have hM0 : left - x.Name.size ≤ 1048576 := by omega
  go_wp2_with fail
  refine (szMethodS_calls _ _ _ _ (H1.out.below ((Below.refl _ _).alloc (Nat.le_refl _) _)) HT1.out (by omega) (by omega)).mono ?_
  rintro e w1 ⟨r1, rfl, hr1, hb1⟩
  have B1 : Blk w1 w.heap.size 61 #[.string x.Name, v1] := (Blk.new _ _ _).below hb1
  have D1 : Below w.heap.size w w1 := ((Below.refl _ _).alloc (Nat.le_refl _) _).trans (hb1.mono (by simp only [size_alloc]; omega))
  have HB1 := Lib.hid B1
  have HD1 := Lib.hid D1
  obtain ⟨cb1, fb1⟩ := B1.rules
  clear hb1 B1 D1
  rcases hr1 with rfl | ⟨hr1, hr1_0⟩
  · go_wp2
    go_ret
    exact ⟨_, rfl, .inl rfl, HD1.out⟩
  have hr1_9 : r1 ≤ 1048576 := by omega
  have HR1 := Lib.hid hr1
  clear hr1
  go_wp2
  go_ret
  exact ⟨_, rfl, .inr ⟨by have e1 := HR1.out; omega, by omega⟩, HD1.out⟩

set_option maxHeartbeats 800000 in
set_option maxRecDepth 100000 in
theorem szScriptS_calls (xs : List GScript) (v : Value) (left : Int) (w : World) (hr : RdW w (.s xs.length (xs.flatMap eScript)) v) (hstr : StrOkL (xs.flatMap eScript)) (h0 : 0 ≤ left) (h1 : left ≤ 1048576) :
    Calls Try.prog 11 #[v, .int .i64 left] w fun e w' => ∃ r : Int, e = .returned (.int .i64 r) ∧ SzR r left (xs.length + sizL (xs.flatMap eScript)) ∧ Below w.heap.size w w' := by
  obtain ⟨A, c, rfl, ⟨_, _, hl⟩⟩ := hr.slice
  have HR := Lib.hid hr
  clear hr
  by_cases hlt : left - xs.length < 0
  · go_enter Try.func11, Try.ntmps11
    go_wp2
    go_ret
    exact ⟨_, rfl, .inl rfl, Below.refl _ w⟩
  · go_enter Try.func11, Try.ntmps11
    go_wp2
    go_loopw [1, 5] (fun a b wr => ∃ (i : Nat) (q : Int), i ≤ xs.length ∧ b = .int .i64 i ∧ a = .int .i64 q ∧ 0 ≤ q ∧ q ≤ 1048576 ∧ Hid (q = left - xs.length - sizL ((xs.take i).flatMap eScript)) ∧ Hid (Below w.heap.size w wr)) (fun a b wr => xs.length - (intOf b).toNat)
    case atStart => exact ⟨0, _, by omega, rfl, rfl, by omega, by omega, by simp [sizL_nil, Hid], Below.refl _ w⟩
    case round =>
      obtain ⟨i, q, hi, rfl, rfl, hq0, hq9, HQ, HB⟩ := hrel
      by_cases hlt : i < xs.length
      · obtain ⟨x, hx⟩ : ∃ x, xs[i]? = some x := ⟨xs[i], List.getElem?_eq_getElem hlt⟩
        obtain ⟨ad, v1, rfl, hadb, h0, h1, k1⟩ := row_eScript (HR.out.below HB.out) hx
        have HX := Lib.hid hx
        clear hx
        go_wp2_with fail
        refine (szScript_calls _ x _ _ (mkrd_eScript k1) (StrOkL_mem hstr (List.mem_of_getElem? HX.out)) hq0 hq9).mono ?_
        rintro e w1 ⟨r, rfl, hr, hb1⟩
        have HB1 := Lib.hid hb1
        clear hb1
        have hq := HQ.out
        have hs1 := siz_step eScript xs i x HX.out
        have hs2 := siz_take_le eScript xs (i + 1)
        rcases hr with rfl | ⟨hr, hr0⟩
        · go_wp2
          go_ret
          exact ⟨_, rfl, .inl rfl, HB.out.trans (HB1.out.mono HB.out.size)⟩
        · have hr9 : r ≤ 1048576 := by omega
          have HQ2 : Hid (r = left - xs.length - sizL ((xs.take (i + 1)).flatMap eScript)) := by unfold Hid; omega
          clear hr hs1 hs2 hq
          go_wp2
          go_roundw
          case rel => exact ⟨i + 1, r, by omega, by go_num, rfl, hr0, hr9, HQ2, HB.out.trans (HB1.out.mono HB.out.size)⟩
          case measure => simp [intOf]; omega
      · have : i = xs.length := by omega
        subst this
        have hq := HQ.out
        rw [List.take_length] at hq
        have HQ2 := Lib.hid hq
        clear hq
        go_wp2
        go_ret
        exact ⟨_, rfl, .inr ⟨by have := HQ2.out; omega, hq0⟩, HB.out⟩

end Go.Proofs.Ytiohoeafdaihpaa
