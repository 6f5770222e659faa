import Derived.Test.YtlpjbipgocgioaaProg
import Derived.Test.YtlpjbipgocgioaaTypes
import Derived.StillTailTactics
import Derived.Deep.RegionHeld3
import Derived.Laws.IdiomStrings
import Derived.Test.YtlpjbipgocgioaaAppend
import Derived.Laws.StructEq
import Derived.Lib.SliceRun
import Derived.Shelf.RegionOpenPlain
namespace Go.Proofs.Ytlpjbipgocgioaa
open Go.RowKit
set_option linter.unusedVariables false
set_option linter.unusedSimpArgs false

set_option maxHeartbeats 800000 in
set_option maxRecDepth 100000 in
theorem toExport_calls (us : List Value) (x : GExport) (w : World) (hr : RdLW w (eExport x) us) :
    Calls Try.prog 28 #[.agg us.toArray] w fun e w' => ∃ us' fp, e = .returned (.agg us'.toArray) ∧ OwnL w' (eExport x) us' fp ∧ Fresh w fp ∧ Below w.heap.size w w' := by
  obtain rfl := rd_eExport hr
  go_enter Try.func28, Try.ntmps28
  go_wp2
  refine bodyPost_ret (v := .agg #[.int .i64 x.Pos, .int .i64 x.Entity, .int .i64 x.Count]) (by simp [results, Try.results28, go_sem]) rfl ⟨_, _, rfl, mkown_eExport, Fresh.nil _, ?_⟩
  exact (((Below.refl _ _).alloc (Nat.le_refl _) _).alloc (by simp) _).alloc (by simp; omega) _

set_option maxHeartbeats 800000 in
set_option maxRecDepth 100000 in
theorem toExportS_calls (xs : List GExport) (v : Value) (w : World) (hr : RdW w (.s xs.length (xs.flatMap eExport)) v) (hn : xs.length ≤ 1048576) :
    Calls Try.prog 17 #[v] w fun e w' => ∃ v' fp, e = .returned v' ∧ Own w' (.s xs.length (xs.flatMap eExport)) v' fp ∧ Fresh w fp ∧ Below w.heap.size w w' := by
  obtain ⟨A, c, rfl, ⟨_, _, hl⟩⟩ := hr.slice
  have HR := Lib.hid hr
  clear hr
  have hn1 : xs.length ≤ 1048576 := by omega
  obtain ⟨cs0, hcs, hmk⟩ := run_make_any (P := Try.prog) 27 51 24 3 Try.underlying27 ⟨_, _, rfl, rfl, rfl, rfl⟩ xs.length (by omega) (by omega)
  have HCS := Lib.hid hcs
  clear hcs
  go_enter Try.func17, Try.ntmps17
  go_wp2
  go_loopw [4] (fun a wr => ∃ i : Nat, i ≤ xs.length ∧ a = .int .i64 i ∧ w.heap.size < wr.heap.size ∧ Hid (ToI eExport 3 xs w wr i)) (fun a wr => xs.length - (intOf a).toNat)
  case atStart => exact ⟨0, by omega, rfl, by simp, ToI.start HCS.out⟩
  case round =>
    obtain ⟨i, hi, rfl, hgz, HI⟩ := hrel
    by_cases hlt : i < xs.length
    · obtain ⟨x, hx⟩ : ∃ x, xs[i]? = some x := ⟨xs[i], List.getElem?_eq_getElem hlt⟩
      obtain ⟨ad, rfl, hadb, h0, h1, h2⟩ := row_eExport (HR.out.below HI.out.below) hx
      have HX := Lib.hid hx
      clear hx
      go_wp2_with fail
      refine (toExport_calls _ x _ (mkrd_eExport)).mono ?_
      rintro e w1 ⟨us', fp', rfl, ho, hf, hb1⟩
      have HB1 := Lib.hid hb1
      have HO := Lib.hid ho
      have HF := Lib.hid hf
      obtain ⟨rfl, rfl⟩ := own_eExport ho
      clear ho hf hb1
      obtain ⟨y0, c0, q0⟩ := HI.out.get HB1.out 0 hlt (by omega)
      obtain ⟨y1, c1, q1⟩ := HI.out.get HB1.out 1 hlt (by omega)
      obtain ⟨y2, c2, q2⟩ := HI.out.get HB1.out 2 hlt (by omega)
      rw [Nat.add_zero] at c0 q0
      have hgz1 : w.heap.size < w1.heap.size := Nat.lt_of_lt_of_le hgz HB1.out.size
      go_wp2
      go_roundw
      case rel =>
        have hst := HI.out.step HX.out HB1.out len_eExport HO.out HF.out
        simp only [putRow, Nat.add_assoc, Nat.reduceAdd] at hst
        exact ⟨i + 1, by omega, by go_num, by simpa [World.setCell] using hgz1, hst⟩
      case measure => simp [intOf]; omega
    · have : i = xs.length := by omega
      subst this
      go_wp2
      go_ret
      obtain ⟨fp, ho, hf, hb⟩ := HI.out.finish hn1
      exact ⟨_, fp, rfl, ho, hf, hb⟩

set_option maxHeartbeats 800000 in
set_option maxRecDepth 100000 in
theorem eqExport_calls (us us' : List Value) (x : GExport) (w : World) (hr : RdLW w (eExport x) us) (hr' : RdLW w (eExport x) us') :
    Calls Try.prog 32 #[.agg us.toArray, .agg us'.toArray] w fun e w' => e = .returned (.bool true) ∧ Below w.heap.size w w' := by
  obtain rfl := rd_eExport hr
  obtain rfl := rd_eExport hr'
  clear hr hr'
  go_enter Try.func32, Try.ntmps32
  go_wp2
  go_ret
  exact ⟨rfl, ((Below.refl _ _).alloc (Nat.le_refl _) _).alloc (by simp) _⟩

set_option maxHeartbeats 800000 in
set_option maxRecDepth 100000 in
theorem eqExportS_calls (xs : List GExport) (v v' : Value) (w : World) (hr : RdW w (.s xs.length (xs.flatMap eExport)) v) (hr' : RdW w (.s xs.length (xs.flatMap eExport)) v') :
    Calls Try.prog 21 #[v, v'] w fun e w' => e = .returned (.bool true) ∧ Below w.heap.size w w' := by
  obtain ⟨A, c, rfl, ⟨_, _, hl⟩⟩ := hr.slice
  obtain ⟨A', c', rfl, _⟩ := hr'.slice
  have HR := Lib.hid hr
  have HR' := Lib.hid hr'
  clear hr hr'
  go_enter Try.func21, Try.ntmps21
  go_wp2
  go_loopw [5] (fun a wr => ∃ i : Nat, i ≤ xs.length ∧ a = .int .i64 i ∧ Hid (Below w.heap.size w wr)) (fun a wr => xs.length - (intOf a).toNat)
  case atStart => exact ⟨0, by omega, rfl, Below.refl _ w⟩
  case round =>
    obtain ⟨i, hi, rfl, HB⟩ := hrel
    by_cases hlt : i < xs.length
    · obtain ⟨x, hx⟩ : ∃ x, xs[i]? = some x := ⟨xs[i], List.getElem?_eq_getElem hlt⟩
      obtain ⟨ad, rfl, hadb, h0, h1, h2⟩ := row_eExport (HR.out.below HB.out) hx
      obtain ⟨ad', rfl, hadb', h0', h1', h2'⟩ := row_eExport (HR'.out.below HB.out) hx
      have HX := Lib.hid hx
      clear hx
      go_wp2
      go_still_tail 8, (by kernel_rfl)
      change wpList _ _ _ _ _ wr.drew
      go_wp2_with fail
      refine (eqExport_calls _ _ x _ (mkrd_eExport) (mkrd_eExport)).mono ?_
      rintro e w1 ⟨rfl, hb1⟩
      have HB1 := Lib.hid hb1
      clear hb1
      go_wp2
      go_roundw
      case rel => exact ⟨i + 1, by omega, by go_num, HB.out.drew.trans (HB1.out.mono HB.out.drew.size)⟩
      case measure => simp [intOf]; omega
    · have : i = xs.length := by omega
      subst this
      go_wp2
      go_ret
      exact ⟨rfl, HB.out⟩

set_option maxHeartbeats 800000 in
set_option maxRecDepth 100000 in
theorem szExportS_calls (xs : List GExport) (v : Value) (left : Int) (w : World) (hr : RdW w (.s xs.length (xs.flatMap eExport)) v) (h0 : 0 ≤ left) (h1 : left ≤ 1048576) :
    Calls Try.prog 14 #[v, .int .i64 left] w fun e w' => ∃ r : Int, e = .returned (.int .i64 r) ∧ SzR r left (xs.length + sizL (xs.flatMap eExport)) ∧ Below w.heap.size w w' := by
  have hz : sizL (xs.flatMap eExport) = 0 := by
    have h2 : ∀ ys : List GExport, sizL (ys.flatMap eExport) = 0 := fun ys => by
      induction ys with
      | nil => exact sizL_nil
      | cons y ys ih => rw [List.flatMap_cons, sizL_append, ih, siz_eExport]
    exact h2 xs
  rw [hz, Nat.add_zero]
  clear hz
  obtain ⟨A, c, rfl, ⟨_, _, hl⟩⟩ := hr.slice
  clear hr
  by_cases hlt : left - xs.length < 0
  · go_enter Try.func14, Try.ntmps14
    go_wp2
    go_ret
    exact ⟨_, rfl, .inl rfl, Below.refl _ w⟩
  · go_enter Try.func14, Try.ntmps14
    go_wp2
    go_ret
    exact ⟨_, rfl, .inr ⟨rfl, by omega⟩, Below.refl _ w⟩

set_option maxHeartbeats 800000 in
set_option maxRecDepth 100000 in
theorem markExportS_calls (xs : List GExport) (v : Value) (k : Int) (fp : List Nat) (w : World) (ho : Own w (.s xs.length (xs.flatMap eExport)) v fp) (hnd : fp.Nodup) (hk0 : 0 ≤ k) (hk1 : k + cntL (xs.flatMap eExport) ≤ 4611686018427387904) :
    Calls Try.prog 23 #[v, .int .i64 k] w fun e w' => ∃ r : Int, e = .returned (.int .i64 r) ∧ r = k + cntL (xs.flatMap eExport) ∧ Own w' (.s xs.length (mkL (xs.flatMap eExport) k)) v fp ∧ Chg (· ∈ fp) w w' := by
  obtain ⟨A, c, rfl, ⟨_, _, hl⟩⟩ := ho.slice
  have HS := Lib.hid (MkI.start (k0 := k) ho)
  have HND := Lib.hid hnd
  clear ho hnd
  go_enter Try.func23, Try.ntmps23
  go_wp2
  go_loopw [1, 5] (fun a b wr => ∃ (i : Nat) (q : Int), i ≤ xs.length ∧ b = .int .i64 i ∧ a = .int .i64 q ∧ Hid (q = k + cntL ((xs.take i).flatMap eExport)) ∧ Hid (MkI eExport xs k w wr (.slice A xs.length c) fp i)) (fun a b wr => xs.length - (intOf b).toNat)
  case atStart => exact ⟨0, k, by omega, rfl, rfl, by simp [cntL_nil, Hid], HS⟩
  case round =>
    obtain ⟨i, q, hi, rfl, rfl, HQ, HI⟩ := hrel
    by_cases hlt : i < xs.length
    · obtain ⟨x, hx⟩ : ∃ x, xs[i]? = some x := ⟨xs[i], List.getElem?_eq_getElem hlt⟩
      obtain ⟨g, c', up, ur, uo, fa, fr, fo, hv, O⟩ := HI.out.open_ len_eExport HND.out hx
      injection hv with hv1 hv2 hv3
      subst hv1; subst hv3
      have hq := HQ.out
      have hq1 := cnt_step eExport xs i x hx
      have hq2 := cnt_take_le eExport xs (i+1)
      have hq3 := cnt_eExport x
      have hq0 : 0 ≤ q := by omega
      have hqx : q + cntL (eExport x) ≤ 4611686018427387904 := by omega
      have hq9 : q + 3 ≤ 4611686018427387904 := by omega
      obtain ⟨rfl, hfr⟩ := own_eExport O.mid
      obtain ⟨h0, g0⟩ := O.cell 0 _ rfl
      obtain ⟨h1, g1⟩ := O.cell 1 _ rfl
      obtain ⟨h2, g2⟩ := O.cell 2 _ rfl
      rw [Nat.add_zero] at h0 g0
      have HX := Lib.hid hx
      have HO := Lib.hid O
      have HF := Lib.hid hfr
      have HC := Lib.hid hqx
      have HQ2 : Hid (q + 1 + 1 + 1 = k + cntL ((xs.take (i+1)).flatMap eExport)) := by unfold Hid; omega
      clear hx O hq hq1 hq2 hq3 hv2 hfr HI HS hqx
      go_wp2
      go_roundw
      case rel =>
        have hst := HO.out.closeRow (by rw [← HQ.out]; exact mkownm_eExport q hq0 HC.out) HF.out rfl
        exact ⟨i + 1, _, by omega, by go_num, rfl, HQ2, hst⟩
      case measure => simp [intOf]; omega
    · have : i = xs.length := by omega
      subst this
      have hq := HQ.out
      rw [List.take_length] at hq
      have HQ2 := Lib.hid hq
      clear hq
      go_wp2
      go_ret
      exact ⟨_, rfl, HQ2.out, HI.out.finish⟩

set_option maxHeartbeats 800000 in
set_option maxRecDepth 100000 in
theorem heldExportS_calls (xs : List GExport) (v : Value) (k : Int) (w : World) (hr : RdW w (.s xs.length (mkL (xs.flatMap eExport) k)) v) (hk0 : 0 ≤ k) (hk1 : k + cntL (xs.flatMap eExport) ≤ 4611686018427387904) :
    Calls Try.prog 25 #[v, .int .i64 k] w fun e w' => ∃ r : Int, e = .returned (.int .i64 r) ∧ r = k + cntL (xs.flatMap eExport) ∧ Below w.heap.size w w' := by
  obtain ⟨A, c, rfl, ⟨_, _, hl⟩⟩ := hr.slice
  have HR := Lib.hid hr
  clear hr
  go_enter Try.func25, Try.ntmps25
  go_wp2
  go_loopw [1, 5] (fun a b wr => ∃ (i : Nat) (q : Int), i ≤ xs.length ∧ b = .int .i64 i ∧ a = .int .i64 q ∧ Hid (q = k + cntL ((xs.take i).flatMap eExport)) ∧ Hid (Below w.heap.size w wr)) (fun a b wr => xs.length - (intOf b).toNat)
  case atStart => exact ⟨0, k, by omega, rfl, rfl, by simp [cntL_nil, Hid], Below.refl _ w⟩
  case round =>
    obtain ⟨i, q, hi, rfl, rfl, HQ, HB⟩ := hrel
    by_cases hlt : i < xs.length
    · obtain ⟨x, hx⟩ : ∃ x, xs[i]? = some x := ⟨xs[i], List.getElem?_eq_getElem hlt⟩
      obtain ⟨ad, ys, rfl, hadb, hr, hc⟩ := RdW.atMk len_eExport (HR.out.below HB.out) hx
      have hq := HQ.out
      have hq1 := cnt_step eExport xs i x hx
      have hq2 := cnt_take_le eExport xs (i+1)
      have hq3 := cnt_eExport x
      have hq0 : 0 ≤ q := by omega
      have hqx : q + cntL (eExport x) ≤ 4611686018427387904 := by omega
      rw [← hq] at hr
      obtain rfl := rdm_eExport q hq0 hqx hr
      have h0 := hc 0 _ rfl
      have h1 := hc 1 _ rfl
      have h2 := hc 2 _ rfl
      rw [Nat.add_zero] at h0
      rw [add_field _ _ 1 (by omega)] at h1
      rw [add_field _ _ 2 (by omega)] at h2
      have hq9 : q + 3 ≤ 4611686018427387904 := by omega
      have HX := Lib.hid hx
      have HQ2 : Hid (q + 1 + 1 + 1 = k + cntL ((xs.take (i+1)).flatMap eExport)) := by unfold Hid; omega
      clear hx hq hq1 hq2 hq3 hqx hr hc
      go_wp2
      go_roundw
      case rel => exact ⟨i + 1, _, by omega, by go_num, rfl, HQ2, HB⟩
      case measure => simp [intOf]; omega
    · have : i = xs.length := by omega
      subst this
      have hq := HQ.out
      rw [List.take_length] at hq
      have HQ2 := Lib.hid hq
      clear hq
      go_wp2
      go_ret
      exact ⟨_, rfl, HQ2.out, HB.out⟩

set_option maxHeartbeats 800000 in
set_option maxRecDepth 100000 in
theorem toQuestion_calls (us : List Value) (x : GQuestion) (w : World) (hr : RdLW w (eQuestion x) us) :
    Calls Try.prog 29 #[.agg us.toArray] w fun e w' => ∃ us' fp, e = .returned (.agg us'.toArray) ∧ OwnL w' (eQuestion x) us' fp ∧ Fresh w fp ∧ Below w.heap.size w w' := by
  obtain rfl := rd_eQuestion hr
  go_enter Try.func29, Try.ntmps29
  go_wp2
  refine bodyPost_ret (v := .agg #[.int .i64 x.Id, .int .i64 x.Promise]) (by simp [results, Try.results29, go_sem]) rfl ⟨_, _, rfl, mkown_eQuestion, Fresh.nil _, ?_⟩
  exact (((Below.refl _ _).alloc (Nat.le_refl _) _).alloc (by simp) _).alloc (by simp; omega) _

set_option maxHeartbeats 800000 in
set_option maxRecDepth 100000 in
theorem toQuestionS_calls (xs : List GQuestion) (v : Value) (w : World) (hr : RdW w (.s xs.length (xs.flatMap eQuestion)) v) (hn : xs.length ≤ 1048576) :
    Calls Try.prog 18 #[v] w fun e w' => ∃ v' fp, e = .returned v' ∧ Own w' (.s xs.length (xs.flatMap eQuestion)) v' fp ∧ Fresh w fp ∧ Below w.heap.size w w' := by
  obtain ⟨A, c, rfl, ⟨_, _, hl⟩⟩ := hr.slice
  have HR := Lib.hid hr
  clear hr
  have hn1 : xs.length ≤ 1048576 := by omega
  obtain ⟨cs0, hcs, hmk⟩ := run_make_any (P := Try.prog) 28 41 16 2 Try.underlying28 ⟨_, _, rfl, rfl, rfl, rfl⟩ xs.length (by omega) (by omega)
  have HCS := Lib.hid hcs
  clear hcs
  go_enter Try.func18, Try.ntmps18
  go_wp2
  go_loopw [4] (fun a wr => ∃ i : Nat, i ≤ xs.length ∧ a = .int .i64 i ∧ w.heap.size < wr.heap.size ∧ Hid (ToI eQuestion 2 xs w wr i)) (fun a wr => xs.length - (intOf a).toNat)
  case atStart => exact ⟨0, by omega, rfl, by simp, ToI.start HCS.out⟩
  case round =>
    obtain ⟨i, hi, rfl, hgz, HI⟩ := hrel
    by_cases hlt : i < xs.length
    · obtain ⟨x, hx⟩ : ∃ x, xs[i]? = some x := ⟨xs[i], List.getElem?_eq_getElem hlt⟩
      obtain ⟨ad, rfl, hadb, h0, h1⟩ := row_eQuestion (HR.out.below HI.out.below) hx
      have HX := Lib.hid hx
      clear hx
      go_wp2_with fail
      refine (toQuestion_calls _ x _ (mkrd_eQuestion)).mono ?_
      rintro e w1 ⟨us', fp', rfl, ho, hf, hb1⟩
      have HB1 := Lib.hid hb1
      have HO := Lib.hid ho
      have HF := Lib.hid hf
      obtain ⟨rfl, rfl⟩ := own_eQuestion ho
      clear ho hf hb1
      obtain ⟨y0, c0, q0⟩ := HI.out.get HB1.out 0 hlt (by omega)
      obtain ⟨y1, c1, q1⟩ := HI.out.get HB1.out 1 hlt (by omega)
      rw [Nat.add_zero] at c0 q0
      have hgz1 : w.heap.size < w1.heap.size := Nat.lt_of_lt_of_le hgz HB1.out.size
      go_wp2
      go_roundw
      case rel =>
        have hst := HI.out.step HX.out HB1.out len_eQuestion HO.out HF.out
        simp only [putRow, Nat.add_assoc, Nat.reduceAdd] at hst
        exact ⟨i + 1, by omega, by go_num, by simpa [World.setCell] using hgz1, hst⟩
      case measure => simp [intOf]; omega
    · have : i = xs.length := by omega
      subst this
      go_wp2
      go_ret
      obtain ⟨fp, ho, hf, hb⟩ := HI.out.finish hn1
      exact ⟨_, fp, rfl, ho, hf, hb⟩

set_option maxHeartbeats 800000 in
set_option maxRecDepth 100000 in
theorem eqQuestion_calls (us us' : List Value) (x : GQuestion) (w : World) (hr : RdLW w (eQuestion x) us) (hr' : RdLW w (eQuestion x) us') :
    Calls Try.prog 33 #[.agg us.toArray, .agg us'.toArray] w fun e w' => e = .returned (.bool true) ∧ Below w.heap.size w w' := by
  obtain rfl := rd_eQuestion hr
  obtain rfl := rd_eQuestion hr'
  clear hr hr'
  go_enter Try.func33, Try.ntmps33
  go_wp2
  go_ret
  exact ⟨rfl, ((Below.refl _ _).alloc (Nat.le_refl _) _).alloc (by simp) _⟩

set_option maxHeartbeats 800000 in
set_option maxRecDepth 100000 in
theorem eqQuestionS_calls (xs : List GQuestion) (v v' : Value) (w : World) (hr : RdW w (.s xs.length (xs.flatMap eQuestion)) v) (hr' : RdW w (.s xs.length (xs.flatMap eQuestion)) v') :
    Calls Try.prog 22 #[v, v'] w fun e w' => e = .returned (.bool true) ∧ Below w.heap.size w w' := by
  obtain ⟨A, c, rfl, ⟨_, _, hl⟩⟩ := hr.slice
  obtain ⟨A', c', rfl, _⟩ := hr'.slice
  have HR := Lib.hid hr
  have HR' := Lib.hid hr'
  clear hr hr'
  go_enter Try.func22, Try.ntmps22
  go_wp2
  go_loopw [5] (fun a wr => ∃ i : Nat, i ≤ xs.length ∧ a = .int .i64 i ∧ Hid (Below w.heap.size w wr)) (fun a wr => xs.length - (intOf a).toNat)
  case atStart => exact ⟨0, by omega, rfl, Below.refl _ w⟩
  case round =>
    obtain ⟨i, hi, rfl, HB⟩ := hrel
    by_cases hlt : i < xs.length
    · obtain ⟨x, hx⟩ : ∃ x, xs[i]? = some x := ⟨xs[i], List.getElem?_eq_getElem hlt⟩
      obtain ⟨ad, rfl, hadb, h0, h1⟩ := row_eQuestion (HR.out.below HB.out) hx
      obtain ⟨ad', rfl, hadb', h0', h1'⟩ := row_eQuestion (HR'.out.below HB.out) hx
      have HX := Lib.hid hx
      clear hx
      go_wp2
      go_still_tail 8, (by kernel_rfl)
      change wpList _ _ _ _ _ wr.drew
      go_wp2_with fail
      refine (eqQuestion_calls _ _ x _ (mkrd_eQuestion) (mkrd_eQuestion)).mono ?_
      rintro e w1 ⟨rfl, hb1⟩
      have HB1 := Lib.hid hb1
      clear hb1
      go_wp2
      go_roundw
      case rel => exact ⟨i + 1, by omega, by go_num, HB.out.drew.trans (HB1.out.mono HB.out.drew.size)⟩
      case measure => simp [intOf]; omega
    · have : i = xs.length := by omega
      subst this
      go_wp2
      go_ret
      exact ⟨rfl, HB.out⟩

set_option maxHeartbeats 800000 in
set_option maxRecDepth 100000 in
theorem szQuestionS_calls (xs : List GQuestion) (v : Value) (left : Int) (w : World) (hr : RdW w (.s xs.length (xs.flatMap eQuestion)) v) (h0 : 0 ≤ left) (h1 : left ≤ 1048576) :
    Calls Try.prog 15 #[v, .int .i64 left] w fun e w' => ∃ r : Int, e = .returned (.int .i64 r) ∧ SzR r left (xs.length + sizL (xs.flatMap eQuestion)) ∧ Below w.heap.size w w' := by
  have hz : sizL (xs.flatMap eQuestion) = 0 := by
    have h2 : ∀ ys : List GQuestion, sizL (ys.flatMap eQuestion) = 0 := fun ys => by
      induction ys with
      | nil => exact sizL_nil
      | cons y ys ih => rw [List.flatMap_cons, sizL_append, ih, siz_eQuestion]
    exact h2 xs
  rw [hz, Nat.add_zero]
  clear hz
  obtain ⟨A, c, rfl, ⟨_, _, hl⟩⟩ := hr.slice
  clear hr
  by_cases hlt : left - xs.length < 0
  · go_enter Try.func15, Try.ntmps15
    go_wp2
    go_ret
    exact ⟨_, rfl, .inl rfl, Below.refl _ w⟩
  · go_enter Try.func15, Try.ntmps15
    go_wp2
    go_ret
    exact ⟨_, rfl, .inr ⟨rfl, by omega⟩, Below.refl _ w⟩

set_option maxHeartbeats 800000 in
set_option maxRecDepth 100000 in
theorem markQuestionS_calls (xs : List GQuestion) (v : Value) (k : Int) (fp : List Nat) (w : World) (ho : Own w (.s xs.length (xs.flatMap eQuestion)) v fp) (hnd : fp.Nodup) (hk0 : 0 ≤ k) (hk1 : k + cntL (xs.flatMap eQuestion) ≤ 4611686018427387904) :
    Calls Try.prog 24 #[v, .int .i64 k] w fun e w' => ∃ r : Int, e = .returned (.int .i64 r) ∧ r = k + cntL (xs.flatMap eQuestion) ∧ Own w' (.s xs.length (mkL (xs.flatMap eQuestion) k)) v fp ∧ Chg (· ∈ fp) w w' := by
  obtain ⟨A, c, rfl, ⟨_, _, hl⟩⟩ := ho.slice
  have HS := Lib.hid (MkI.start (k0 := k) ho)
  have HND := Lib.hid hnd
  clear ho hnd
  go_enter Try.func24, Try.ntmps24
  go_wp2
  go_loopw [1, 5] (fun a b wr => ∃ (i : Nat) (q : Int), i ≤ xs.length ∧ b = .int .i64 i ∧ a = .int .i64 q ∧ Hid (q = k + cntL ((xs.take i).flatMap eQuestion)) ∧ Hid (MkI eQuestion xs k w wr (.slice A xs.length c) fp i)) (fun a b wr => xs.length - (intOf b).toNat)
  case atStart => exact ⟨0, k, by omega, rfl, rfl, by simp [cntL_nil, Hid], HS⟩
  case round =>
    obtain ⟨i, q, hi, rfl, rfl, HQ, HI⟩ := hrel
    by_cases hlt : i < xs.length
    · obtain ⟨x, hx⟩ : ∃ x, xs[i]? = some x := ⟨xs[i], List.getElem?_eq_getElem hlt⟩
      obtain ⟨g, c', up, ur, uo, fa, fr, fo, hv, O⟩ := HI.out.open_ len_eQuestion HND.out hx
      injection hv with hv1 hv2 hv3
      subst hv1; subst hv3
      have hq := HQ.out
      have hq1 := cnt_step eQuestion xs i x hx
      have hq2 := cnt_take_le eQuestion xs (i+1)
      have hq3 := cnt_eQuestion x
      have hq0 : 0 ≤ q := by omega
      have hqx : q + cntL (eQuestion x) ≤ 4611686018427387904 := by omega
      have hq9 : q + 2 ≤ 4611686018427387904 := by omega
      obtain ⟨rfl, hfr⟩ := own_eQuestion O.mid
      obtain ⟨h0, g0⟩ := O.cell 0 _ rfl
      obtain ⟨h1, g1⟩ := O.cell 1 _ rfl
      rw [Nat.add_zero] at h0 g0
      have HX := Lib.hid hx
      have HO := Lib.hid O
      have HF := Lib.hid hfr
      have HC := Lib.hid hqx
      have HQ2 : Hid (q + 1 + 1 = k + cntL ((xs.take (i+1)).flatMap eQuestion)) := by unfold Hid; omega
      clear hx O hq hq1 hq2 hq3 hv2 hfr HI HS hqx
      go_wp2
      go_roundw
      case rel =>
        have hst := HO.out.closeRow (by rw [← HQ.out]; exact mkownm_eQuestion q hq0 HC.out) HF.out rfl
        exact ⟨i + 1, _, by omega, by go_num, rfl, HQ2, hst⟩
      case measure => simp [intOf]; omega
    · have : i = xs.length := by omega
      subst this
      have hq := HQ.out
      rw [List.take_length] at hq
      have HQ2 := Lib.hid hq
      clear hq
      go_wp2
      go_ret
      exact ⟨_, rfl, HQ2.out, HI.out.finish⟩

set_option maxHeartbeats 800000 in
set_option maxRecDepth 100000 in
theorem heldQuestionS_calls (xs : List GQuestion) (v : Value) (k : Int) (w : World) (hr : RdW w (.s xs.length (mkL (xs.flatMap eQuestion) k)) v) (hk0 : 0 ≤ k) (hk1 : k + cntL (xs.flatMap eQuestion) ≤ 4611686018427387904) :
    Calls Try.prog 26 #[v, .int .i64 k] w fun e w' => ∃ r : Int, e = .returned (.int .i64 r) ∧ r = k + cntL (xs.flatMap eQuestion) ∧ Below w.heap.size w w' := by
  obtain ⟨A, c, rfl, ⟨_, _, hl⟩⟩ := hr.slice
  have HR := Lib.hid hr
  clear hr
  go_enter Try.func26, Try.ntmps26
  go_wp2
  go_loopw [1, 5] (fun a b wr => ∃ (i : Nat) (q : Int), i ≤ xs.length ∧ b = .int .i64 i ∧ a = .int .i64 q ∧ Hid (q = k + cntL ((xs.take i).flatMap eQuestion)) ∧ Hid (Below w.heap.size w wr)) (fun a b wr => xs.length - (intOf b).toNat)
  case atStart => exact ⟨0, k, by omega, rfl, rfl, by simp [cntL_nil, Hid], Below.refl _ w⟩
  case round =>
    obtain ⟨i, q, hi, rfl, rfl, HQ, HB⟩ := hrel
    by_cases hlt : i < xs.length
    · obtain ⟨x, hx⟩ : ∃ x, xs[i]? = some x := ⟨xs[i], List.getElem?_eq_getElem hlt⟩
      obtain ⟨ad, ys, rfl, hadb, hr, hc⟩ := RdW.atMk len_eQuestion (HR.out.below HB.out) hx
      have hq := HQ.out
      have hq1 := cnt_step eQuestion xs i x hx
      have hq2 := cnt_take_le eQuestion xs (i+1)
      have hq3 := cnt_eQuestion x
      have hq0 : 0 ≤ q := by omega
      have hqx : q + cntL (eQuestion x) ≤ 4611686018427387904 := by omega
      rw [← hq] at hr
      obtain rfl := rdm_eQuestion q hq0 hqx hr
      have h0 := hc 0 _ rfl
      have h1 := hc 1 _ rfl
      rw [Nat.add_zero] at h0
      rw [add_field _ _ 1 (by omega)] at h1
      have hq9 : q + 2 ≤ 4611686018427387904 := by omega
      have HX := Lib.hid hx
      have HQ2 : Hid (q + 1 + 1 = k + cntL ((xs.take (i+1)).flatMap eQuestion)) := by unfold Hid; omega
      clear hx hq hq1 hq2 hq3 hqx hr hc
      go_wp2
      go_roundw
      case rel => exact ⟨i + 1, _, by omega, by go_num, rfl, HQ2, HB⟩
      case measure => simp [intOf]; omega
    · have : i = xs.length := by omega
      subst this
      have hq := HQ.out
      rw [List.take_length] at hq
      have HQ2 := Lib.hid hq
      clear hq
      go_wp2
      go_ret
      exact ⟨_, rfl, HQ2.out, HB.out⟩

set_option maxHeartbeats 800000 in
set_option maxRecDepth 100000 in
theorem toLink_calls (us : List Value) (x : GLink) (w : World) (hr : RdLW w (eLink x) us) (hz : sizL (eLink x) ≤ 1048576) :
    Calls Try.prog 7 #[.agg us.toArray] w fun e w' => ∃ us' fp, e = .returned (.agg us'.toArray) ∧ OwnL w' (eLink x) us' fp ∧ Fresh w fp ∧ Below w.heap.size w w' := by
  rw [siz_eLink] at hz
  obtain ⟨v2, v4, v6, rfl, h2, h4, h6⟩ := rd_eLink hr
  clear hr
  have H2 := Lib.hid h2
  clear h2
  have H4 := Lib.hid h4
  clear h4
  have H6 := Lib.hid h6
  clear h6
  go_enter Try.func7, Try.ntmps7
  go_wp2_with fail
  refine (toExportS_calls _ _ _ (H2.out.below ?hbel1) (by omega)).mono ?_
  case hbel1 => exact ((((Below.refl _ _).alloc (Nat.le_refl _) _).alloc (by simp) _).alloc (by simp; omega) _)
  rintro e w1 ⟨u2, f2, rfl, o2, n2, hb1⟩
  obtain ⟨A2, c2, rfl, _⟩ := o2.slice
  have Z1 := Lib.hid hb1
  have S1 : w.heap.size + 3 ≤ w1.heap.size := by have h := hb1.size; simp only [size_set, size_alloc] at h; omega
  have hz1_0 : w.heap.size < w1.heap.size := by omega
  have hz1_1 : w.heap.size + 1 < w1.heap.size := by omega
  have hz1_2 : w.heap.size + 1 + 1 < w1.heap.size := by omega
  have B1 : Hid (Below w.heap.size w w1) := by
    refine Below.trans ?_ (hb1.mono (by simp only [size_set, size_alloc]; omega))
    exact ((((Below.refl _ _).alloc (Nat.le_refl _) _).alloc (by simp) _).alloc (by simp; omega) _)
  have KA1 : Hid (Blk w1 (w.heap.size) 25 #[.int .i64 x.Peer, .bool x.Up, v2, .int .i64 x.Next, v4, .int .i64 x.Asked, v6]) := by
    refine Blk.below ?_ hb1
    exact ((Blk.made rfl).alloc _).alloc _
  have KO1 : Hid (Blk w1 (w.heap.size + 1 + 1) 30 #[.int .i64 x.Peer, .bool x.Up, .slice none 0 0, .int .i64 0, .slice none 0 0, .int .i64 0, .slice none 0 0]) := by
    refine Blk.below ?_ hb1
    exact Blk.made (by simp)
  have KR1 : Hid (Blk w1 (w.heap.size + 1) 30 #[.int .i64 0, .bool false, .slice none 0 0, .int .i64 0, .slice none 0 0, .int .i64 0, .slice none 0 0]) := by
    refine Blk.below ?_ hb1
    exact (Blk.made (by simp)).alloc _
  obtain ⟨ca1, fa1⟩ := KA1.out.rules
  obtain ⟨co1, fo1⟩ := KO1.out.rules
  obtain ⟨cr1, fr1⟩ := KR1.out.rules
  clear hb1
  go_wp2_with fail
  refine (toQuestionS_calls _ _ _ (H4.out.below ?hbel2) (by omega)).mono ?_
  case hbel2 => exact ((B1.out.setCell (by dsimp only; omega) _).setCell (by dsimp only; omega) _)
  rintro e w2 ⟨u4, f4, rfl, o4, n4, hb2⟩
  obtain ⟨A4, c4, rfl, _⟩ := o4.slice
  have Z2 := Lib.hid hb2
  have S2 : w1.heap.size ≤ w2.heap.size := by have h := hb2.size; simp only [size_set, size_alloc] at h; omega
  have hz2_0 : w.heap.size < w2.heap.size := by omega
  have hz2_1 : w.heap.size + 1 < w2.heap.size := by omega
  have hz2_2 : w.heap.size + 1 + 1 < w2.heap.size := by omega
  have B2 : Hid (Below w.heap.size w w2) := by
    refine Below.trans ?_ (hb2.mono (by simp only [size_set, size_alloc]; omega))
    exact ((B1.out.setCell (by dsimp only; omega) _).setCell (by dsimp only; omega) _)
  have KA2 : Hid (Blk w2 (w.heap.size) 25 #[.int .i64 x.Peer, .bool x.Up, v2, .int .i64 x.Next, v4, .int .i64 x.Asked, v6]) := by
    refine Blk.below ?_ hb2
    exact ((KA1.out.far (by dsimp only; omega) _).far (by dsimp only; omega) _)
  have KO2 : Hid (Blk w2 (w.heap.size + 1 + 1) 30 #[.int .i64 x.Peer, .bool x.Up, .slice A2 x.Exports.length c2, .int .i64 x.Next, .slice none 0 0, .int .i64 0, .slice none 0 0]) := by
    refine Blk.below ?_ hb2
    exact Blk.eq ((KO1.out.set_ 2 _).set_ 3 _) (by simp)
  have KR2 : Hid (Blk w2 (w.heap.size + 1) 30 #[.int .i64 0, .bool false, .slice none 0 0, .int .i64 0, .slice none 0 0, .int .i64 0, .slice none 0 0]) := by
    refine Blk.below ?_ hb2
    exact ((KR1.out.far (by dsimp only; omega) _).far (by dsimp only; omega) _)
  obtain ⟨ca2, fa2⟩ := KA2.out.rules
  obtain ⟨co2, fo2⟩ := KO2.out.rules
  obtain ⟨cr2, fr2⟩ := KR2.out.rules
  clear hb2
  go_wp2_with fail
  refine (toQuestionS_calls _ _ _ (H6.out.below ?hbel3) (by omega)).mono ?_
  case hbel3 => exact ((B2.out.setCell (by dsimp only; omega) _).setCell (by dsimp only; omega) _)
  rintro e w3 ⟨u6, f6, rfl, o6, n6, hb3⟩
  obtain ⟨A6, c6, rfl, _⟩ := o6.slice
  have Z3 := Lib.hid hb3
  have S3 : w2.heap.size ≤ w3.heap.size := by have h := hb3.size; simp only [size_set, size_alloc] at h; omega
  have hz3_0 : w.heap.size < w3.heap.size := by omega
  have hz3_1 : w.heap.size + 1 < w3.heap.size := by omega
  have hz3_2 : w.heap.size + 1 + 1 < w3.heap.size := by omega
  have B3 : Hid (Below w.heap.size w w3) := by
    refine Below.trans ?_ (hb3.mono (by simp only [size_set, size_alloc]; omega))
    exact ((B2.out.setCell (by dsimp only; omega) _).setCell (by dsimp only; omega) _)
  have KA3 : Hid (Blk w3 (w.heap.size) 25 #[.int .i64 x.Peer, .bool x.Up, v2, .int .i64 x.Next, v4, .int .i64 x.Asked, v6]) := by
    refine Blk.below ?_ hb3
    exact ((KA2.out.far (by dsimp only; omega) _).far (by dsimp only; omega) _)
  have KO3 : Hid (Blk w3 (w.heap.size + 1 + 1) 30 #[.int .i64 x.Peer, .bool x.Up, .slice A2 x.Exports.length c2, .int .i64 x.Next, .slice A4 x.Questions.length c4, .int .i64 x.Asked, .slice none 0 0]) := by
    refine Blk.below ?_ hb3
    exact Blk.eq ((KO2.out.set_ 4 _).set_ 5 _) (by simp)
  have KR3 : Hid (Blk w3 (w.heap.size + 1) 30 #[.int .i64 0, .bool false, .slice none 0 0, .int .i64 0, .slice none 0 0, .int .i64 0, .slice none 0 0]) := by
    refine Blk.below ?_ hb3
    exact ((KR2.out.far (by dsimp only; omega) _).far (by dsimp only; omega) _)
  obtain ⟨ca3, fa3⟩ := KA3.out.rules
  obtain ⟨co3, fo3⟩ := KO3.out.rules
  obtain ⟨cr3, fr3⟩ := KR3.out.rules
  clear hb3
  have O2 := Lib.hid o2
  clear o2
  have O4 := Lib.hid o4
  clear o4
  have O6 := Lib.hid o6
  clear o6
  have N2 := Lib.hid n2
  clear n2
  have N4 := Lib.hid n4
  clear n4
  have N6 := Lib.hid n6
  clear n6
  go_wp2
  refine post_cell (w0 := w3) (fun g => w.heap.size ≤ g ∧ g < w.heap.size + 3) Try.results7 (w.heap.size + 1) #[.int .i64 x.Peer, .bool x.Up, .slice A2 x.Exports.length c2, .int .i64 x.Next, .slice A4 x.Questions.length c4, .int .i64 x.Asked, .slice A6 x.Answers.length c6] _ rfl (Blk.eq ((((((((KR3.out.far (by dsimp only; omega) _).set_ 0 _).set_ 1 _).set_ 2 _).set_ 3 _).set_ 4 _).set_ 5 _).set_ 6 _) (by simp)) Try.underlying30 rfl (by kernel_rfl) rfl (((((((((Chg.refl _ _).setCell (.inl (by dsimp only; omega)) _).setCell (.inl (by dsimp only; omega)) _).setCell (.inl (by dsimp only; omega)) _).setCell (.inl (by dsimp only; omega)) _).setCell (.inl (by dsimp only; omega)) _).setCell (.inl (by dsimp only; omega)) _).setCell (.inl (by dsimp only; omega)) _).setCell (.inl (by dsimp only; omega)) _) ?_
  intro W hW
  have F2 : ∀ g, g ∈ f2 → w.heap.size + 2 < g := fun g hg => by have h1 := N2.out.2 g hg; simp only [size_set, size_alloc] at h1; omega
  have P2 := (Own.below (Own.chg (Own.below (Own.chg O2.out (T := fun g => w.heap.size ≤ g ∧ g < w.heap.size + 3) (((Chg.refl _ _).setCell (.inl (by dsimp only; omega)) _).setCell (.inl (by dsimp only; omega)) _) (fun g hg => by have := F2 g hg; show ¬ (_ ∧ _); omega)) Z2.out) (T := fun g => w.heap.size ≤ g ∧ g < w.heap.size + 3) (((Chg.refl _ _).setCell (.inl (by dsimp only; omega)) _).setCell (.inl (by dsimp only; omega)) _) (fun g hg => by have := F2 g hg; show ¬ (_ ∧ _); omega)) Z3.out)
  have F4 : ∀ g, g ∈ f4 → w.heap.size + 2 < g := fun g hg => by have h1 := N4.out.2 g hg; simp only [size_set, size_alloc] at h1; omega
  have P4 := (Own.below (Own.chg O4.out (T := fun g => w.heap.size ≤ g ∧ g < w.heap.size + 3) (((Chg.refl _ _).setCell (.inl (by dsimp only; omega)) _).setCell (.inl (by dsimp only; omega)) _) (fun g hg => by have := F4 g hg; show ¬ (_ ∧ _); omega)) Z3.out)
  have F6 : ∀ g, g ∈ f6 → w.heap.size + 2 < g := fun g hg => by have h1 := N6.out.2 g hg; simp only [size_set, size_alloc] at h1; omega
  have P6 := O6.out
  refine ⟨_, _, rfl, mkown_eLink (P2.chg hW (fun g hg => by have := F2 g hg; show ¬ (_ ∧ _); omega)) (P4.chg hW (fun g hg => by have := F4 g hg; show ¬ (_ ∧ _); omega)) (P6.chg hW (fun g hg => by have := F6 g hg; show ¬ (_ ∧ _); omega)), ?_, ?_⟩
  · skip
    have V2 : Fresh w f2 := N2.out.mono (by simp only [size_set, size_alloc]; omega)
    have L2 : ∀ g, g ∈ f2 → g < w1.heap.size := Own.lt _ _ _ O2.out
    have V4 : Fresh w1 f4 := N4.out.mono (by simp only [size_set, size_alloc]; omega)
    have L4 : ∀ g, g ∈ f4 → g < w2.heap.size := Own.lt _ _ _ O4.out
    have V6 : Fresh w2 f6 := N6.out.mono (by simp only [size_set, size_alloc]; omega)
    have L6 : ∀ g, g ∈ f6 → g < w3.heap.size := Own.lt _ _ _ O6.out
    exact (V2.put L2 (V4.put L4 V6 (by omega)) (by omega))
  · exact below_chg B3.out hW B3.out.size (fun i hi => hi.1)

set_option maxHeartbeats 800000 in
set_option maxRecDepth 100000 in
theorem eqLink_calls (us us' : List Value) (x : GLink) (w : World) (hr : RdLW w (eLink x) us) (hr' : RdLW w (eLink x) us') :
    Calls Try.prog 9 #[.agg us.toArray, .agg us'.toArray] w fun e w' => e = .returned (.bool true) ∧ Below w.heap.size w w' := by
  obtain ⟨v2, v4, v6, rfl, h2, h4, h6⟩ := rd_eLink hr
  obtain ⟨v2', v4', v6', rfl, h2', h4', h6'⟩ := rd_eLink hr'
  clear hr hr'
  have H2 := Lib.hid h2
  have H2' := Lib.hid h2'
  clear h2 h2'
  have H4 := Lib.hid h4
  have H4' := Lib.hid h4'
  clear h4 h4'
  have H6 := Lib.hid h6
  have H6' := Lib.hid h6'
  clear h6 h6'
  go_enter Try.func9, Try.ntmps9
  go_wp2_with fail
  refine (eqExportS_calls _ _ _ _ (H2.out.below (((Below.refl _ _).alloc (Nat.le_refl _) _).alloc (by simp) _)) (H2'.out.below (((Below.refl _ _).alloc (Nat.le_refl _) _).alloc (by simp) _))).mono ?_
  rintro e w1 ⟨rfl, hb1⟩
  have hz1_0 : w.heap.size < w1.heap.size := by have := hb1.size; simp at this; omega
  have hz1_1 : w.heap.size + 1 < w1.heap.size := by have := hb1.size; simp at this; omega
  have B1 : Hid (Below w.heap.size w w1) := (((Below.refl _ _).alloc (Nat.le_refl _) _).alloc (by simp) _).trans (hb1.mono (by first | (simp; done) | (simp; omega)))
  obtain ⟨hc1, hf1⟩ := bcell hb1
  clear hb1
  go_wp2_with fail
  refine (eqQuestionS_calls _ _ _ _ (H4.out.below B1.out) (H4'.out.below B1.out)).mono ?_
  rintro e w2 ⟨rfl, hb2⟩
  have hz2_0 : w.heap.size < w2.heap.size := by have := hb2.size; have := hz1_0; omega
  have hz2_1 : w.heap.size + 1 < w2.heap.size := by have := hb2.size; have := hz1_1; omega
  have B2 : Hid (Below w.heap.size w w2) := B1.out.trans (hb2.mono (by omega))
  obtain ⟨hc2, hf2⟩ := bcell hb2
  clear hb2
  go_wp2_with fail
  refine (eqQuestionS_calls _ _ _ _ (H6.out.below B2.out) (H6'.out.below B2.out)).mono ?_
  rintro e w3 ⟨rfl, hb3⟩
  have hz3_0 : w.heap.size < w3.heap.size := by have := hb3.size; have := hz2_0; omega
  have hz3_1 : w.heap.size + 1 < w3.heap.size := by have := hb3.size; have := hz2_1; omega
  have B3 : Hid (Below w.heap.size w w3) := B2.out.trans (hb3.mono (by omega))
  obtain ⟨hc3, hf3⟩ := bcell hb3
  clear hb3
  go_wp2
  go_ret
  exact ⟨rfl, B3.out⟩

set_option maxHeartbeats 800000 in
set_option maxRecDepth 100000 in
theorem szLink_calls (us : List Value) (x : GLink) (left : Int) (w : World) (hr : RdLW w (eLink x) us) (h0 : 0 ≤ left) (h1 : left ≤ 1048576) :
    Calls Try.prog 5 #[.agg us.toArray, .int .i64 left] w fun e w' => ∃ r : Int, e = .returned (.int .i64 r) ∧ SzR r left (sizL (eLink x)) ∧ Below w.heap.size w w' := by
  rw [siz_eLink]
  obtain ⟨v2, v4, v6, rfl, h2, h4, h6⟩ := rd_eLink hr
  clear hr
  have H2 := Lib.hid h2
  clear h2
  have H4 := Lib.hid h4
  clear h4
  have H6 := Lib.hid h6
  clear h6
  go_enter Try.func5, Try.ntmps5
  go_wp2_with fail
  refine (szExportS_calls _ _ _ _ (H2.out.below ((Below.refl _ _).alloc (Nat.le_refl _) _)) (by omega) (by omega)).mono ?_
  rintro e w1 ⟨r2, rfl, hr2, hb1⟩
  have B1 : Blk w1 w.heap.size 25 #[.int .i64 x.Peer, .bool x.Up, v2, .int .i64 x.Next, v4, .int .i64 x.Asked, v6] := (Blk.new _ _ _).below hb1
  have D1 : Below w.heap.size w w1 := ((Below.refl _ _).alloc (Nat.le_refl _) _).trans (hb1.mono (by simp only [size_alloc]; omega))
  have HB1 := Lib.hid B1
  have HD1 := Lib.hid D1
  obtain ⟨cb1, fb1⟩ := B1.rules
  clear hb1 B1 D1
  rcases hr2 with rfl | ⟨hr2, hr2_0⟩
  · go_wp2
    go_ret
    exact ⟨_, rfl, .inl rfl, HD1.out⟩
  have hr2_9 : r2 ≤ 1048576 := by omega
  have HR2 := Lib.hid hr2
  clear hr2
  go_wp2_with fail
  refine (szQuestionS_calls _ _ _ _ (H4.out.below HD1.out) (by omega) (by omega)).mono ?_
  rintro e w2 ⟨r4, rfl, hr4, hb2⟩
  have B2 : Blk w2 w.heap.size 25 #[.int .i64 x.Peer, .bool x.Up, v2, .int .i64 x.Next, v4, .int .i64 x.Asked, v6] := HB1.out.below hb2
  have D2 : Below w.heap.size w w2 := HD1.out.trans (hb2.mono HD1.out.size)
  have HB2 := Lib.hid B2
  have HD2 := Lib.hid D2
  obtain ⟨cb2, fb2⟩ := B2.rules
  clear hb2 B2 D2
  rcases hr4 with rfl | ⟨hr4, hr4_0⟩
  · go_wp2
    go_ret
    exact ⟨_, rfl, .inl rfl, HD2.out⟩
  have hr4_9 : r4 ≤ 1048576 := by omega
  have HR4 := Lib.hid hr4
  clear hr4
  go_wp2_with fail
  refine (szQuestionS_calls _ _ _ _ (H6.out.below HD2.out) (by omega) (by omega)).mono ?_
  rintro e w3 ⟨r6, rfl, hr6, hb3⟩
  have B3 : Blk w3 w.heap.size 25 #[.int .i64 x.Peer, .bool x.Up, v2, .int .i64 x.Next, v4, .int .i64 x.Asked, v6] := HB2.out.below hb3
  have D3 : Below w.heap.size w w3 := HD2.out.trans (hb3.mono HD2.out.size)
  have HB3 := Lib.hid B3
  have HD3 := Lib.hid D3
  obtain ⟨cb3, fb3⟩ := B3.rules
  clear hb3 B3 D3
  rcases hr6 with rfl | ⟨hr6, hr6_0⟩
  · go_wp2
    go_ret
    exact ⟨_, rfl, .inl rfl, HD3.out⟩
  have hr6_9 : r6 ≤ 1048576 := by omega
  have HR6 := Lib.hid hr6
  clear hr6
  go_wp2
  go_ret
  exact ⟨_, rfl, .inr ⟨by have e2 := HR2.out; have e4 := HR4.out; have e6 := HR6.out; omega, by omega⟩, HD3.out⟩

set_option maxHeartbeats 800000 in
set_option maxRecDepth 100000 in
theorem markLink_calls (us : List Value) (x : GLink) (k : Int) (fp : List Nat) (w : World) (ho : OwnL w (eLink x) us fp) (hnd : fp.Nodup) (hk0 : 0 ≤ k) (hk1 : k + tcnt (eLink x) ≤ 4611686018427387904) :
    Calls Try.prog 10 #[.agg us.toArray, .int .i64 k] w fun e w' => ∃ r : Int, e = .returned (.int .i64 r) ∧ r = k + tcnt (eLink x) ∧ OwnL w' (topL (eLink x) k) us fp ∧ Chg (· ∈ fp) w w' := by
  rw [tcnt_eLink] at hk1 ⊢
  obtain ⟨v2, f2, v4, f4, v6, f6, rfl, rfl, o2_0, o4_0, o6_0⟩ := own_eLink ho
  clear ho
  obtain ⟨n2, hn0, d2⟩ := List.nodup_append.1 hnd
  obtain ⟨n4, n6, d4⟩ := List.nodup_append.1 hn0
  have H_o2_0 := Lib.hid o2_0
  have H_o4_0 := Lib.hid o4_0
  have H_o6_0 := Lib.hid o6_0
  have HC := Lib.hid hk1
  clear hk1 o2_0 o4_0 o6_0
  go_enter Try.func10, Try.ntmps10
  go_wp2_with fail
  refine (markExportS_calls _ _ k f2 _ (Own.below H_o2_0.out ((Below.refl _ _).alloc (Nat.le_refl _) _)) n2 (by omega) (by have := HC.out; omega)).mono ?_
  rintro e w1 ⟨r2, rfl, hr2, o2_1, hb1⟩
  have o4_1 := Own.chg (Own.below H_o4_0.out ((Below.refl _ _).alloc (Nat.le_refl _) _)) hb1 (fun b hb hb2 => d2 b hb2 b (by simp [hb]) rfl)
  have o6_1 := Own.chg (Own.below H_o6_0.out ((Below.refl _ _).alloc (Nat.le_refl _) _)) hb1 (fun b hb hb2 => d2 b hb2 b (by simp [hb]) rfl)
  have hbg1 : w.heap.size ∉ f2 := fun h => by have := Own.lt _ _ _ H_o2_0.out _ h; omega
  have B1 : Blk w1 w.heap.size 30 #[.int .i64 x.Peer, .bool x.Up, v2, .int .i64 x.Next, v4, .int .i64 x.Asked, v6] := (Blk.new _ _ _).chg hb1 hbg1
  have C1 : Chg (· ∈ (f2 ++ (f4 ++ (f6)))) w w1 := ((Chg.refl _ w).alloc _).trans (hb1.mono (fun b _ hb => by simp [hb]))
  have HB1 := Lib.hid B1
  have HC1 := Lib.hid C1
  have H_hr2 := Lib.hid hr2
  have H_o2_1 := Lib.hid o2_1
  have H_o4_1 := Lib.hid o4_1
  have H_o6_1 := Lib.hid o6_1
  have hr2_0 : 0 ≤ r2 := by omega
  obtain ⟨cb1, fb1⟩ := B1.rules
  clear hb1 B1 C1 hr2 o2_1 o4_1 o6_1
  go_wp2_with fail
  refine (markQuestionS_calls _ _ r2 f4 _ H_o4_1.out n4 (by omega) (by have := HC.out; have e2 := H_hr2.out; omega)).mono ?_
  rintro e w2 ⟨r4, rfl, hr4, o4_2, hb2⟩
  have o2_2 := Own.chg H_o2_1.out hb2 (fun b hb hb2 => d2 b hb b (by simp [hb2]) rfl)
  have o6_2 := Own.chg H_o6_1.out hb2 (fun b hb hb2 => d4 b hb2 b (by simp [hb]) rfl)
  have hbg2 : w.heap.size ∉ f4 := fun h => by have := Own.lt _ _ _ H_o4_0.out _ h; omega
  have B2 : Blk w2 w.heap.size 30 #[.int .i64 x.Peer, .bool x.Up, v2, .int .i64 x.Next, v4, .int .i64 x.Asked, v6] := HB1.out.chg hb2 hbg2
  have C2 : Chg (· ∈ (f2 ++ (f4 ++ (f6)))) w w2 := HC1.out.trans (hb2.mono (fun b _ hb => by simp [hb]))
  have HB2 := Lib.hid B2
  have HC2 := Lib.hid C2
  have H_hr4 := Lib.hid hr4
  have H_o2_2 := Lib.hid o2_2
  have H_o4_2 := Lib.hid o4_2
  have H_o6_2 := Lib.hid o6_2
  have hr4_0 : 0 ≤ r4 := by omega
  obtain ⟨cb2, fb2⟩ := B2.rules
  clear hb2 B2 C2 hr4 o2_2 o4_2 o6_2
  go_wp2_with fail
  refine (markQuestionS_calls _ _ r4 f6 _ H_o6_2.out n6 (by omega) (by have := HC.out; have e2 := H_hr2.out; have e4 := H_hr4.out; omega)).mono ?_
  rintro e w3 ⟨r6, rfl, hr6, o6_3, hb3⟩
  have o2_3 := Own.chg H_o2_2.out hb3 (fun b hb hb2 => d2 b hb b (by simp [hb2]) rfl)
  have o4_3 := Own.chg H_o4_2.out hb3 (fun b hb hb2 => d4 b hb b (by simp [hb2]) rfl)
  have hbg3 : w.heap.size ∉ f6 := fun h => by have := Own.lt _ _ _ H_o6_0.out _ h; omega
  have B3 : Blk w3 w.heap.size 30 #[.int .i64 x.Peer, .bool x.Up, v2, .int .i64 x.Next, v4, .int .i64 x.Asked, v6] := HB2.out.chg hb3 hbg3
  have C3 : Chg (· ∈ (f2 ++ (f4 ++ (f6)))) w w3 := HC2.out.trans (hb3.mono (fun b _ hb => by simp [hb]))
  have HB3 := Lib.hid B3
  have HC3 := Lib.hid C3
  have H_hr6 := Lib.hid hr6
  have H_o2_3 := Lib.hid o2_3
  have H_o4_3 := Lib.hid o4_3
  have H_o6_3 := Lib.hid o6_3
  have hr6_0 : 0 ≤ r6 := by omega
  obtain ⟨cb3, fb3⟩ := B3.rules
  clear hb3 B3 C3 hr6 o2_3 o4_3 o6_3
  go_wp2
  go_ret
  refine ⟨_, rfl, by have := HC.out; have e2 := H_hr2.out; have e4 := H_hr4.out; have e6 := H_hr6.out; omega, ?_, HC3.out⟩
  exact mktop_eLink k r2 r4 r6 H_hr2.out H_hr4.out H_hr6.out H_o2_3.out H_o4_3.out H_o6_3.out

set_option maxHeartbeats 800000 in
set_option maxRecDepth 100000 in
theorem heldLink_calls (us : List Value) (x : GLink) (k : Int) (w : World) (hr : RdLW w (topL (eLink x) k) us) (hk0 : 0 ≤ k) (hk1 : k + tcnt (eLink x) ≤ 4611686018427387904) :
    Calls Try.prog 11 #[.agg us.toArray, .int .i64 k] w fun e w' => ∃ r : Int, e = .returned (.int .i64 r) ∧ r = k + tcnt (eLink x) ∧ Below w.heap.size w w' := by
  rw [tcnt_eLink] at hk1 ⊢
  obtain ⟨r2, hr2⟩ : ∃ r2 : Int, r2 = k + (cntL (x.Exports.flatMap eExport) : Nat) := ⟨_, rfl⟩
  obtain ⟨r4, hr4⟩ : ∃ r4 : Int, r4 = r2 + (cntL (x.Questions.flatMap eQuestion) : Nat) := ⟨_, rfl⟩
  obtain ⟨r6, hr6⟩ : ∃ r6 : Int, r6 = r4 + (cntL (x.Answers.flatMap eQuestion) : Nat) := ⟨_, rfl⟩
  obtain ⟨v2, v4, v6, rfl, k2, k4, k6⟩ := rdtop_eLink k r2 r4 r6 hr2 hr4 hr6 hr
  clear hr
  have K2 := Lib.hid k2
  have HR2 := Lib.hid hr2
  have hr2_0 : 0 ≤ r2 := by omega
  have K4 := Lib.hid k4
  have HR4 := Lib.hid hr4
  have hr4_0 : 0 ≤ r4 := by omega
  have K6 := Lib.hid k6
  have HR6 := Lib.hid hr6
  have hr6_0 : 0 ≤ r6 := by omega
  have HC := Lib.hid hk1
  clear hk1 k2 hr2 k4 hr4 k6 hr6
  go_enter Try.func11, Try.ntmps11
  go_wp2_with fail
  refine (heldExportS_calls _ _ _ _ (K2.out.below ((Below.refl _ _).alloc (Nat.le_refl _) _)) (by omega) (by have := HC.out; have := HR2.out; omega)).mono ?_
  rintro e w1 ⟨rr, rfl, hrr, hb1⟩
  obtain rfl : rr = r2 := hrr.trans HR2.out.symm
  clear hrr
  have B1 : Blk w1 w.heap.size 30 #[.int .i64 x.Peer, .bool x.Up, v2, .int .i64 x.Next, v4, .int .i64 x.Asked, v6] := (Blk.new _ _ _).below hb1
  have D1 : Below w.heap.size w w1 := ((Below.refl _ _).alloc (Nat.le_refl _) _).trans (hb1.mono (by simp only [size_alloc]; omega))
  have HB1 := Lib.hid B1
  have HD1 := Lib.hid D1
  obtain ⟨cb1, fb1⟩ := B1.rules
  clear hb1 B1 D1
  go_wp2_with fail
  refine (heldQuestionS_calls _ _ _ _ (K4.out.below HD1.out) (by omega) (by have := HC.out; have e2 := HR2.out; have := HR4.out; omega)).mono ?_
  rintro e w2 ⟨rr, rfl, hrr, hb2⟩
  obtain rfl : rr = r4 := hrr.trans HR4.out.symm
  clear hrr
  have B2 : Blk w2 w.heap.size 30 #[.int .i64 x.Peer, .bool x.Up, v2, .int .i64 x.Next, v4, .int .i64 x.Asked, v6] := HB1.out.below hb2
  have D2 : Below w.heap.size w w2 := HD1.out.trans (hb2.mono HD1.out.size)
  have HB2 := Lib.hid B2
  have HD2 := Lib.hid D2
  obtain ⟨cb2, fb2⟩ := B2.rules
  clear hb2 B2 D2
  go_wp2_with fail
  refine (heldQuestionS_calls _ _ _ _ (K6.out.below HD2.out) (by omega) (by have := HC.out; have e2 := HR2.out; have e4 := HR4.out; have := HR6.out; omega)).mono ?_
  rintro e w3 ⟨rr, rfl, hrr, hb3⟩
  obtain rfl : rr = r6 := hrr.trans HR6.out.symm
  clear hrr
  have B3 : Blk w3 w.heap.size 30 #[.int .i64 x.Peer, .bool x.Up, v2, .int .i64 x.Next, v4, .int .i64 x.Asked, v6] := HB2.out.below hb3
  have D3 : Below w.heap.size w w3 := HD2.out.trans (hb3.mono HD2.out.size)
  have HB3 := Lib.hid B3
  have HD3 := Lib.hid D3
  obtain ⟨cb3, fb3⟩ := B3.rules
  clear hb3 B3 D3
  go_wp2
  go_ret
  exact ⟨_, rfl, by have := HC.out; have e2 := HR2.out; have e4 := HR4.out; have e6 := HR6.out; omega, HD3.out⟩

end Go.Proofs.Ytlpjbipgocgioaa
