import Derived.Test.YtklbpjnpmbidiaaProg
import Derived.Test.YtklbpjnpmbidiaaTypes
import Derived.StillTailTactics
import Derived.Deep.RegionWith
import Derived.Deep.AppendLies
import Derived.Deep.RegionHeld3
import Derived.Laws.IdiomStrings
import Derived.Test.YtklbpjnpmbidiaaAppend
import Derived.Laws.StructEq
import Derived.Lib.SliceRun
import Derived.Shelf.RegionOpenPlain
import Derived.Test.YtklbpjnpmbidiaaPureEncM
import Derived.Test.YtklbpjnpmbidiaaIsMsgI
import Derived.Test.YtklbpjnpmbidiaaIsMsgS
namespace Go.Proofs.Ytklbpjnpmbidiaa
open Go.RowKit
set_option linter.unusedVariables false
set_option linter.unusedSimpArgs false

set_option maxHeartbeats 3200000 in
set_option maxRecDepth 100000 in
theorem spec_EncodeMessage_row (us : List Value) (x : GMessage) (w : World) (hr : RdLW w (eMessage x) us) (hz : sizL (eMessage x) ≤ 1048576) :
    Calls Try.prog 42 #[.agg us.toArray] w fun e w' => ∃ A' c', e = .returned (.slice A' (encodeMessage x).length c') ∧ w'.ownsRow w.heap.size 5 1 (.slice A' (encodeMessage x).length c') (encodeMessage x).length ((encodeMessage x).flatMap vsByte) ∧ Below w.heap.size w w' := by
  have HIM := Lib.hid hr
  have HZ := Lib.hid hz
  rw [siz_eMessage] at hz
  obtain ⟨v5, rfl, h5⟩ := rd_eMessage hr
  obtain ⟨A, c, rfl, ⟨_, _, hl⟩⟩ := h5.slice
  obtain ⟨f0, f1, f2, f3, f4, f5, f6, f7, f8⟩ := x
  dsimp only at h5 hl hz HIM ⊢
  have HR := Lib.hid h5
  have hs4 : f4.size ≤ 140737488355328 := by omega
  clear hr h5
  have HB := Lib.hid (((Below.refl w.heap.size w).alloc (Nat.le_refl _) (.cells #[.int .i64 f0, .int .i64 f1, .int .i64 f2, .int .i64 f3, .string f4, .slice A f5.length c, .int .i64 f6.Kind, .int .i64 f6.N, .int .i64 f7, .int .i64 f8.Vat, .int .i64 f8.Entity, .int .i64 f8.Seq] 29)))
  have HK := Lib.hid (Blk.new w 29 #[.int .i64 f0, .int .i64 f1, .int .i64 f2, .int .i64 f3, .string f4, .slice A f5.length c, .int .i64 f6.Kind, .int .i64 f6.N, .int .i64 f7, .int .i64 f8.Vat, .int .i64 f8.Entity, .int .i64 f8.Seq])
  rcases Bool.eq_false_or_eq_true (isMessageB ⟨f0, f1, f2, f3, f4, f5, f6, f7, f8⟩) with hI | hI
  rotate_left
  · have HE : Hid (encodeMessage ⟨f0, f1, f2, f3, f4, f5, f6, f7, f8⟩ = []) := by unfold Hid encodeMessage; rw [hI]; rfl
    have HI := Lib.hid hI
    clear hI
    go_enter Try.func42, Try.ntmps42
    go_wp2_with fail
    refine (spec_IsMessage_calls _ ⟨f0, f1, f2, f3, f4, f5, f6, f7, f8⟩ _ (HIM.out.below HB.out) HZ.out).mono ?_
    rintro e w1 ⟨rfl, hb1⟩
    rw [HI.out]
    have HB1 := Lib.hid (HB.out.trans (hb1.mono HB.out.size))
    clear hb1
    go_wp2
    go_ret
    rw [HE.out]
    exact ⟨_, _, rfl, ownsRow_made' rfl HB1.out.size, HB1.out.alloc HB1.out.size _⟩
  have HI := Lib.hid hI
  have HA := Lib.hid (args_le hI)
  have HNM := Lib.hid (nm_le hI)
  have ha : f5.length ≤ 2 := HA.out
  have HE : Hid (encodeMessage ⟨f0, f1, f2, f3, f4, f5, f6, f7, f8⟩ = encM ⟨f0, f1, f2, f3, f4, f5, f6, f7, f8⟩) := by unfold Hid encodeMessage; rw [hI]; rfl
  clear hI
  go_enter Try.func42, Try.ntmps42
  go_wp2_with fail
  refine (spec_IsMessage_calls _ ⟨f0, f1, f2, f3, f4, f5, f6, f7, f8⟩ _ (HIM.out.below HB.out) HZ.out).mono ?_
  rintro e w1 ⟨rfl, hb1⟩
  rw [HI.out]
  have HB1 := Lib.hid (HB.out.trans (hb1.mono HB.out.size))
  have HK1 := Lib.hid (HK.out.below hb1)
  obtain ⟨kc, kf⟩ := HK1.out.rules
  have kl := HK1.out.lt
  clear hb1
  go_wp2
  clear kc kf
  go_loopw [3, 4] (fun a b wr => ∃ (i : Nat) (A' : Option Addr) (c' : Nat), i ≤ f5.length ∧ b = .int .i64 i ∧ a = .slice A' (11 + 2 * i) c' ∧ Hid (wr.ownsRow (w.heap.size + 1) 3 1 (.slice A' (11 + 2 * i) c') (11 + 2 * i) ((intsM ⟨f0, f1, f2, f3, f4, f5, f6, f7, f8⟩ ++ (f5.take i).flatMap wInts).flatMap vsInt)) ∧ Hid (Below w.heap.size w wr) ∧ Hid (Blk wr w.heap.size 29 #[.int .i64 f0, .int .i64 f1, .int .i64 f2, .int .i64 f3, .string f4, .slice A f5.length c, .int .i64 f6.Kind, .int .i64 f6.N, .int .i64 f7, .int .i64 f8.Vat, .int .i64 f8.Entity, .int .i64 f8.Seq])) (fun a b wr => f5.length - (intOf b).toNat)
  case atStart =>
    refine ⟨0, _, _, by omega, rfl, rfl, ?_, HB1.out.alloc HB1.out.size _, HK1.out.alloc _⟩
    exact ownsRow_lit w1 #[.int .i64 f0, .int .i64 f1, .int .i64 f2, .int .i64 f3, .int .i64 f7, .int .i64 f8.Vat, .int .i64 f8.Entity, .int .i64 f8.Seq, .int .i64 f6.Kind, .int .i64 f6.N, .int .i64 (f5.length : Int)] 11 kl rfl (by decide) rfl
  case round =>
    obtain ⟨i, A', c', hi, rfl, rfl, HO, HW, KM⟩ := hrel
    obtain ⟨kc, kf⟩ := KM.out.rules
    have kl := KM.out.lt
    have hlo := HO.out.lt
    by_cases hlt : i < f5.length
    · obtain ⟨y, hy⟩ : ∃ y, f5[i]? = some y := ⟨f5[i], List.getElem?_eq_getElem hlt⟩
      obtain ⟨ad, rfl, hab, q0, q1⟩ := row_eWire HR.out hy
      have habw : (ad.add (i * 2)).block < w.heap.size := by rw [block_of_add]; exact hab
      have hab' : (ad.add (i * 2)).block < wr.heap.size := Nat.lt_of_lt_of_le habw HW.out.size
      have h0 := cell_below HW.out q0 habw
      have h1 := cell_below HW.out q1 habw
      clear q0 q1
      have HS := Lib.hid (wInts_step hy)
      clear hy
      go_wp2
      go_region_held3 (fun wq => wq.cell? ⟨w.heap.size, 5, none⟩ = some (.slice (some ad) f5.length c) ∧ wq.cell? (ad.add (i * 2)) = some (.int .i64 y.Kind) ∧ wq.cell? ⟨(ad.add (i * 2)).block, (ad.add (i * 2)).off + 1, none⟩ = some (.int .i64 y.N))
        (first | exact ⟨kc 5, h0, h1⟩ | exact ⟨cell_alloc_keep (kc 5), cell_alloc_keep h0, cell_alloc_keep h1⟩ | exact ⟨cell_grown hgrow (cell_alloc_keep (kc 5)) (fun k hk e => by have := (hlo k hk).1; have e' : k = w.heap.size := e; omega), cell_grown hgrow (cell_alloc_keep h0) (fun k hk e => by have := (hlo k hk).1; have e' : k = (ad.add (i * 2)).block := e; omega), cell_grown hgrow (cell_alloc_keep h1) (fun k hk e => by have := (hlo k hk).1; have e' : k = (ad.add (i * 2)).block := e; omega)⟩)
        ((refine step_append_lies _ (by rfl) _ _ _ (by rfl) (w.heap.size + 1) 3 _ _ 1 8 Try.underlying41 rfl rfl rfl rfl rfl (by omega) _ (11 + 2 * i) _ (by rfl) ((HO.out.alloc _).drew) ⟨wr.heap.size, 0, none⟩ 2 2 [.int .i64 y.Kind, .int .i64 y.N] (by rfl) (by rfl) (World.news_of_block (cs := #[.int .i64 y.Kind, .int .i64 y.N]) (t := 3) (fr := (0, 0)) (heap_alloc_new wr _)) (by simp [Value.oneCell']) (by omega) (by have h := (by decide : maxLen = 9223372036854775807); omega) (by omega) (by have := HW.out.size; simp; omega) (wr.heap.size + 1) (by simp) ?_; intro gg cap w2 hown hgrow hat hlt2))
      have HW2 := Lib.hid ((HW.out.alloc HW.out.size _).drew.trans (grown_below hgrow (by have := HW.out.size; simp; omega) (fun k hk => by have := (hlo k hk).1; omega)))
      have KM2 := Lib.hid (((KM.out.alloc _).drew).chg (grown_chg hgrow) (fun h => by have := (hlo _ h).1; omega))
      have HO2 : Hid (w2.ownsRow (w.heap.size + 1) 3 1 (.slice (some ⟨gg, 0, none⟩) (11 + 2 * (i + 1)) cap) (11 + 2 * (i + 1)) ((intsM ⟨f0, f1, f2, f3, f4, f5, f6, f7, f8⟩ ++ (f5.take (i + 1)).flatMap wInts).flatMap vsInt)) := by
        unfold Hid; rw [HS.out, ← List.append_assoc, List.flatMap_append]; exact hown
      clear hown hgrow
      go_wp2
      go_roundw
      case rel => exact ⟨i + 1, _, cap, by omega, by go_num, rfl, HO2, HW2, KM2⟩
      case measure => simp [intOf]; omega
    · have hii : i = f5.length := by omega
      subst hii
      have HN : Hid ((numsM ⟨f0, f1, f2, f3, f4, f5, f6, f7, f8⟩).length = 11 + 2 * f5.length) := Lib.hid (numsM_len _)
      have HO0 := HO.out
      rw [List.take_length] at HO0
      obtain ⟨ns, hns⟩ : ∃ ns, ns = numsM ⟨f0, f1, f2, f3, f4, f5, f6, f7, f8⟩ := ⟨_, rfl⟩
      have HNS := Lib.hid hns
      have HO1 : Hid (wr.ownsRow (w.heap.size + 1) 3 1 (.slice A' ns.length c') ns.length (ns.flatMap vsInt)) := by
        unfold Hid; rw [hns, HN.out]; exact HO0
      have hnl : ns.length = 11 + 2 * f5.length := by rw [hns]; exact HN.out
      clear HO HO0 hns HN
      have HU := Lib.hid (flat_uv_len ns)
      have HCV : ∀ W : World, Sem.run Try.prog (convert 9 22 (.string f4)) W = .ok (.slice (some ⟨W.heap.size, 0, none⟩) f4.size (grownCap W f4.size 0 5)) (Lib.bytesWorld W 5 f4) := fun W => Lib.run_convert_string_bytes W 9 22 5 f4 (u := .string) Try.underlying9 Try.underlying22 Try.underlying5
      rw [← hnl]
      have HRD : Hid (∀ W, Below wr.heap.size wr W → RdW W (.s ns.length (ns.flatMap eInt)) (.slice A' ns.length c')) := fun W hW => ownsRow_rdw vals_eInt (ownsRow_below HO1.out hW) (by omega)
      have HKM : Hid (∀ W, Below wr.heap.size wr W → Blk W w.heap.size 29 #[.int .i64 f0, .int .i64 f1, .int .i64 f2, .int .i64 f3, .string f4, .slice A f5.length c, .int .i64 f6.Kind, .int .i64 f6.N, .int .i64 f7, .int .i64 f8.Vat, .int .i64 f8.Entity, .int .i64 f8.Seq]) := fun W hW => KM.out.below hW
      have hn1 : ns.length ≤ 100000 := by omega
      obtain ⟨bs, hbs⟩ : ∃ bs, bs = ns.flatMap uvI := ⟨_, rfl⟩
      have HBS := Lib.hid hbs
      have HCI : Hid (∀ W, RdW W (.s ns.length (ns.flatMap eInt)) (.slice A' ns.length c') → Calls Try.prog 63 #[.slice A' ns.length c'] W fun e w' => ∃ A' c', e = .returned (.slice A' bs.length c') ∧ w'.ownsRow W.heap.size 5 1 (.slice A' bs.length c') bs.length (bs.flatMap vsByte) ∧ Below W.heap.size W w') := fun W hv => by rw [hbs]; exact spec_EncodeInts_row _ ns W hv hn1
      have hn3 : f4.data.toList.length ≤ 1048576 := by have := HNM.out; omega
      have hn2 : bs.length ≤ 1048576 := by have := HU.out; rw [hbs]; omega
      clear hbs
      obtain ⟨tt, htt⟩ : ∃ tt, tt = bs ++ uvI (f4.data.toList.length : Int) ++ f4.data.toList := ⟨_, rfl⟩
      have HTT := Lib.hid htt
      have HCA : Hid (∀ v v' W, RdW W (.s bs.length (bs.flatMap eByte)) v → RdW W (.s f4.data.toList.length (f4.data.toList.flatMap eByte)) v' → Calls Try.prog 62 #[v, v'] W fun e w' => ∃ A' c', e = .returned (.slice A' tt.length c') ∧ w'.ownsRow W.heap.size 5 1 (.slice A' tt.length c') tt.length (tt.flatMap vsByte) ∧ Below W.heap.size W w') := fun v v' W hv hv' => by rw [htt]; exact spec_AppendBytes_row v bs v' f4.data.toList W hv hv' hn2 hn3
      clear htt
      clear hnl
      go_wp2
      go_region_with (first
        | (go_at_call 63; refine (HCI.out _ (HRD.out _ ?_)).mono ?_; (first | exact (Below.refl _ _).drew | exact below_bytes_d _ _ _); rintro e w2 ⟨A2, c2, rfl, ho2, hb2⟩; have HB2 : Hid (Below wr.heap.size wr w2) := (by first | exact (Below.refl _ _).drew.trans hb2 | exact below_bytes_t hb2); obtain ⟨kc2, kf2⟩ := (HKM.out _ HB2.out).rules)
        | (go_at_call 62; refine (HCA.out _ _ _ ?_ ?_).mono ?_; (first | exact ownsRow_rdw vals_eByte ho2 (by omega) | exact (ownsRow_rdw vals_eByte ho2 (by omega)).below (below_bytes _ _ _)); (first | exact rdW_bytes _ _ _ hs4 | exact (rdW_bytes _ _ _ hs4).below hb2); rintro e w3 ⟨A3, c3, rfl, ho3, hb3⟩; have HB3 : Hid (Below wr.heap.size wr w3) := (by first | exact HB2.out.trans (hb3.mono HB2.out.size) | exact (HB2.out.trans ((below_bytes w2 _ _).mono HB2.out.size)).trans (hb3.mono (by rw [Lib.bytesWorld_size]; exact Nat.le_succ_of_le HB2.out.size))); have HO3 : Hid (w3.ownsRow w.heap.size 5 1 (.slice A3 tt.length c3) tt.length (tt.flatMap vsByte)) := (by first | exact ho3.mono (Nat.le_trans HW.out.size HB2.out.size) | exact ho3.mono (by rw [Lib.bytesWorld_size]; exact Nat.le_succ_of_le (Nat.le_trans HW.out.size HB2.out.size)))))
      all_goals (
        have HEE : Hid (encodeMessage ⟨f0, f1, f2, f3, f4, f5, f6, f7, f8⟩ = tt) := by unfold Hid; rw [HE.out, HTT.out, HBS.out, HNS.out]; rfl
        go_wp2
        go_ret
        rw [HEE.out]
        exact ⟨A3, c3, rfl, HO3.out, HW.out.trans (HB3.out.mono HW.out.size)⟩)
set_option maxHeartbeats 3200000 in
set_option maxRecDepth 100000 in
theorem impl_encodeMessage_row (us : List Value) (x : GMessage) (w : World) (hr : RdLW w (eMessage x) us) (hI : isMessageB x = true) :
    Calls Try.prog 28 #[.agg us.toArray] w fun e w' => ∃ A' c', e = .returned (.slice A' (encodeMessage x).length c') ∧ w'.ownsRow w.heap.size 5 1 (.slice A' (encodeMessage x).length c') (encodeMessage x).length ((encodeMessage x).flatMap vsByte) ∧ Below w.heap.size w w' := by
  obtain ⟨v5, rfl, h5⟩ := rd_eMessage hr
  obtain ⟨A, c, rfl, ⟨_, _, hl⟩⟩ := h5.slice
  obtain ⟨f0, f1, f2, f3, f4, f5, f6, f7, f8⟩ := x
  dsimp only at h5 hl ⊢
  have HR := Lib.hid h5
  clear hr h5
  have HB := Lib.hid (((Below.refl w.heap.size w).alloc (Nat.le_refl _) (.cells #[.int .i64 f0, .int .i64 f1, .int .i64 f2, .int .i64 f3, .string f4, .slice A f5.length c, .int .i64 f6.Kind, .int .i64 f6.N, .int .i64 f7, .int .i64 f8.Vat, .int .i64 f8.Entity, .int .i64 f8.Seq] 29)))
  have HK := Lib.hid (Blk.new w 29 #[.int .i64 f0, .int .i64 f1, .int .i64 f2, .int .i64 f3, .string f4, .slice A f5.length c, .int .i64 f6.Kind, .int .i64 f6.N, .int .i64 f7, .int .i64 f8.Vat, .int .i64 f8.Entity, .int .i64 f8.Seq])
  have HA := Lib.hid (args_le hI)
  have HNM := Lib.hid (nm_le hI)
  have hs4 : f4.size ≤ 140737488355328 := by have h1 := HNM.out; have h2 : f4.data.toList.length = f4.size := rfl; dsimp only at h1; omega
  have ha : f5.length ≤ 2 := HA.out
  have HE : Hid (encodeMessage ⟨f0, f1, f2, f3, f4, f5, f6, f7, f8⟩ = encM ⟨f0, f1, f2, f3, f4, f5, f6, f7, f8⟩) := by unfold Hid encodeMessage; rw [hI]; rfl
  clear hI
  go_enter Try.func28, Try.ntmps28
  go_wp2
  go_loopw [3, 38] (fun a b wr => ∃ (i : Nat) (A' : Option Addr) (c' : Nat), i ≤ f5.length ∧ b = .int .i64 i ∧ a = .slice A' (11 + 2 * i) c' ∧ Hid (wr.ownsRow (w.heap.size + 1) 3 1 (.slice A' (11 + 2 * i) c') (11 + 2 * i) ((intsM ⟨f0, f1, f2, f3, f4, f5, f6, f7, f8⟩ ++ (f5.take i).flatMap wInts).flatMap vsInt)) ∧ Hid (Below w.heap.size w wr) ∧ Hid (Blk wr w.heap.size 29 #[.int .i64 f0, .int .i64 f1, .int .i64 f2, .int .i64 f3, .string f4, .slice A f5.length c, .int .i64 f6.Kind, .int .i64 f6.N, .int .i64 f7, .int .i64 f8.Vat, .int .i64 f8.Entity, .int .i64 f8.Seq])) (fun a b wr => f5.length - (intOf b).toNat)
  case atStart =>
    refine ⟨0, _, _, by omega, rfl, rfl, ?_, HB.out.alloc HB.out.size _, HK.out.alloc _⟩
    exact ownsRow_lit' (w := w.alloc _) #[.int .i64 f0, .int .i64 f1, .int .i64 f2, .int .i64 f3, .int .i64 f7, .int .i64 f8.Vat, .int .i64 f8.Entity, .int .i64 f8.Seq, .int .i64 f6.Kind, .int .i64 f6.N, .int .i64 (f5.length : Int)] 11 (by simp) (by simp) rfl (by decide) rfl
  case round =>
    obtain ⟨i, A', c', hi, rfl, rfl, HO, HW, KM⟩ := hrel
    obtain ⟨kc, kf⟩ := KM.out.rules
    have kl := KM.out.lt
    have hlo := HO.out.lt
    by_cases hlt : i < f5.length
    · obtain ⟨y, hy⟩ : ∃ y, f5[i]? = some y := ⟨f5[i], List.getElem?_eq_getElem hlt⟩
      obtain ⟨ad, rfl, hab, h0, h1⟩ := row_eWire (HR.out.below HW.out) hy
      have hab' : (ad.add (i * 2)).block < wr.heap.size := by rw [block_of_add]; exact hab
      have HS := Lib.hid (wInts_step hy)
      clear hy
      go_wp2_with (at_builtin; refine wpList_append_rd rfl _ _ 41 rfl (w.heap.size + 1) 3 _ _ 1 8 Try.underlying41 rfl rfl rfl rfl rfl (by omega) _ (11 + 2 * i) _ rfl ((HO.out.alloc _).alloc _) vals_eInt [y.Kind, y.N] (one_eInt _) (lenv_eInt _) _ _ rfl (rdW_two (wr.alloc _) y.Kind y.N 3 (by simp)) (by simp; omega) (by omega) (by have := HW.out.size; simp; omega) ?_)
      intro A2 c2 w2 hown hgrow
      have HW2 := Lib.hid (((HW.out.alloc HW.out.size _).alloc (by have := HW.out.size; simp; omega) _).trans (grown_below hgrow (by have := HW.out.size; simp; omega) (fun k hk => by have := (hlo k hk).1; omega)))
      have KM2 := Lib.hid (((KM.out.alloc _).alloc _).chg (grown_chg hgrow) (fun h => by have := (hlo _ h).1; omega))
      have HO2 : Hid (w2.ownsRow (w.heap.size + 1) 3 1 (.slice A2 (11 + 2 * (i + 1)) c2) (11 + 2 * (i + 1)) ((intsM ⟨f0, f1, f2, f3, f4, f5, f6, f7, f8⟩ ++ (f5.take (i + 1)).flatMap wInts).flatMap vsInt)) := by
        unfold Hid; rw [HS.out, ← List.append_assoc, List.flatMap_append]; exact hown
      clear hown hgrow
      go_wp2
      go_roundw
      case rel => exact ⟨i + 1, _, c2, by omega, by go_num, rfl, HO2, HW2, KM2⟩
      case measure => simp [intOf]; omega
    · have hii : i = f5.length := by omega
      subst hii
      have HN : Hid ((numsM ⟨f0, f1, f2, f3, f4, f5, f6, f7, f8⟩).length = 11 + 2 * f5.length) := Lib.hid (numsM_len _)
      have HO0 := HO.out
      rw [List.take_length] at HO0
      obtain ⟨ns, hns⟩ : ∃ ns, ns = numsM ⟨f0, f1, f2, f3, f4, f5, f6, f7, f8⟩ := ⟨_, rfl⟩
      have HNS := Lib.hid hns
      have HO1 : Hid (wr.ownsRow (w.heap.size + 1) 3 1 (.slice A' ns.length c') ns.length (ns.flatMap vsInt)) := by
        unfold Hid; rw [hns, HN.out]; exact HO0
      have hnl : ns.length = 11 + 2 * f5.length := by rw [hns]; exact HN.out
      clear HO HO0 hns HN
      have HU := Lib.hid (flat_uv_len ns)
      have HCV : ∀ W : World, Sem.run Try.prog (convert 9 22 (.string f4)) W = .ok (.slice (some ⟨W.heap.size, 0, none⟩) f4.size (grownCap W f4.size 0 5)) (Lib.bytesWorld W 5 f4) := fun W => Lib.run_convert_string_bytes W 9 22 5 f4 (u := .string) Try.underlying9 Try.underlying22 Try.underlying5
      rw [← hnl]
      have HRD : Hid (∀ W, Below wr.heap.size wr W → RdW W (.s ns.length (ns.flatMap eInt)) (.slice A' ns.length c')) := fun W hW => ownsRow_rdw vals_eInt (ownsRow_below HO1.out hW) (by omega)
      have HKM : Hid (∀ W, Below wr.heap.size wr W → Blk W w.heap.size 29 #[.int .i64 f0, .int .i64 f1, .int .i64 f2, .int .i64 f3, .string f4, .slice A f5.length c, .int .i64 f6.Kind, .int .i64 f6.N, .int .i64 f7, .int .i64 f8.Vat, .int .i64 f8.Entity, .int .i64 f8.Seq]) := fun W hW => KM.out.below hW
      have hn1 : ns.length ≤ 100000 := by omega
      obtain ⟨bs, hbs⟩ : ∃ bs, bs = ns.flatMap uvI := ⟨_, rfl⟩
      have HBS := Lib.hid hbs
      have HCI : Hid (∀ W, RdW W (.s ns.length (ns.flatMap eInt)) (.slice A' ns.length c') → Calls Try.prog 56 #[.slice A' ns.length c'] W fun e w' => ∃ A' c', e = .returned (.slice A' bs.length c') ∧ w'.ownsRow W.heap.size 5 1 (.slice A' bs.length c') bs.length (bs.flatMap vsByte) ∧ Below W.heap.size W w') := fun W hv => by rw [hbs]; exact impl_EncodeInts_row _ ns W hv hn1
      have hn3 : f4.data.toList.length ≤ 1048576 := by have := HNM.out; omega
      have hn2 : bs.length ≤ 1048576 := by have := HU.out; rw [hbs]; omega
      clear hbs
      obtain ⟨tt, htt⟩ : ∃ tt, tt = bs ++ uvI (f4.data.toList.length : Int) ++ f4.data.toList := ⟨_, rfl⟩
      have HTT := Lib.hid htt
      have HCA : Hid (∀ v v' W, RdW W (.s bs.length (bs.flatMap eByte)) v → RdW W (.s f4.data.toList.length (f4.data.toList.flatMap eByte)) v' → Calls Try.prog 55 #[v, v'] W fun e w' => ∃ A' c', e = .returned (.slice A' tt.length c') ∧ w'.ownsRow W.heap.size 5 1 (.slice A' tt.length c') tt.length (tt.flatMap vsByte) ∧ Below W.heap.size W w') := fun v v' W hv hv' => by rw [htt]; exact impl_AppendBytes_row v bs v' f4.data.toList W hv hv' hn2 hn3
      clear htt
      clear hnl
      go_wp2
      go_region_with (first
        | (go_at_call 56; refine (HCI.out _ (HRD.out _ ?_)).mono ?_; (first | exact (Below.refl _ _).drew | exact below_bytes_d _ _ _); rintro e w2 ⟨A2, c2, rfl, ho2, hb2⟩; have HB2 : Hid (Below wr.heap.size wr w2) := (by first | exact (Below.refl _ _).drew.trans hb2 | exact below_bytes_t hb2); obtain ⟨kc2, kf2⟩ := (HKM.out _ HB2.out).rules)
        | (go_at_call 55; refine (HCA.out _ _ _ ?_ ?_).mono ?_; (first | exact ownsRow_rdw vals_eByte ho2 (by omega) | exact (ownsRow_rdw vals_eByte ho2 (by omega)).below (below_bytes _ _ _)); (first | exact rdW_bytes _ _ _ hs4 | exact (rdW_bytes _ _ _ hs4).below hb2); rintro e w3 ⟨A3, c3, rfl, ho3, hb3⟩; have HB3 : Hid (Below wr.heap.size wr w3) := (by first | exact HB2.out.trans (hb3.mono HB2.out.size) | exact (HB2.out.trans ((below_bytes w2 _ _).mono HB2.out.size)).trans (hb3.mono (by rw [Lib.bytesWorld_size]; exact Nat.le_succ_of_le HB2.out.size))); have HO3 : Hid (w3.ownsRow w.heap.size 5 1 (.slice A3 tt.length c3) tt.length (tt.flatMap vsByte)) := (by first | exact ho3.mono (Nat.le_trans HW.out.size HB2.out.size) | exact ho3.mono (by rw [Lib.bytesWorld_size]; exact Nat.le_succ_of_le (Nat.le_trans HW.out.size HB2.out.size)))))
      all_goals (
        have HEE : Hid (encodeMessage ⟨f0, f1, f2, f3, f4, f5, f6, f7, f8⟩ = tt) := by unfold Hid; rw [HE.out, HTT.out, HBS.out, HNS.out]; rfl
        go_wp2
        go_ret
        rw [HEE.out]
        exact ⟨A3, c3, rfl, HO3.out, HW.out.trans (HB3.out.mono HW.out.size)⟩)
set_option maxHeartbeats 3200000 in
set_option maxRecDepth 100000 in
theorem impl_EncodeMessage_row (us : List Value) (x : GMessage) (w : World) (hr : RdLW w (eMessage x) us) (hz : sizL (eMessage x) ≤ 1048576) :
    Calls Try.prog 15 #[.agg us.toArray] w fun e w' => ∃ A' c', e = .returned (.slice A' (encodeMessage x).length c') ∧ w'.ownsRow w.heap.size 5 1 (.slice A' (encodeMessage x).length c') (encodeMessage x).length ((encodeMessage x).flatMap vsByte) ∧ Below w.heap.size w w' := by
  have HIM := Lib.hid hr
  have HZ := Lib.hid hz
  obtain ⟨v5, rfl, h5⟩ := rd_eMessage hr
  obtain ⟨A, c, rfl, ⟨_, _, hl⟩⟩ := h5.slice
  clear hr h5 hz
  have HB := Lib.hid (((Below.refl w.heap.size w).alloc (Nat.le_refl _) (.cells #[.int .i64 x.Kind, .int .i64 x.Pos, .int .i64 x.Answer, .int .i64 x.Question, .string x.Name, .slice A x.Args.length c, .int .i64 x.Value.Kind, .int .i64 x.Value.N, .int .i64 x.Count, .int .i64 x.Tag.Vat, .int .i64 x.Tag.Entity, .int .i64 x.Tag.Seq] 29)))
  have HK := Lib.hid (Blk.new w 29 #[.int .i64 x.Kind, .int .i64 x.Pos, .int .i64 x.Answer, .int .i64 x.Question, .string x.Name, .slice A x.Args.length c, .int .i64 x.Value.Kind, .int .i64 x.Value.N, .int .i64 x.Count, .int .i64 x.Tag.Vat, .int .i64 x.Tag.Entity, .int .i64 x.Tag.Seq])
  rcases Bool.eq_false_or_eq_true (isMessageB x) with hI | hI
  rotate_left
  · have HE : Hid (encodeMessage x = []) := by unfold Hid encodeMessage; rw [hI]; rfl
    have HI := Lib.hid hI
    clear hI
    go_enter Try.func15, Try.ntmps15
    go_wp2_with fail
    refine (impl_isMessage_calls _ x _ (HIM.out.below HB.out) HZ.out).mono ?_
    rintro e w1 ⟨rfl, hb1⟩
    rw [HI.out]
    have HB1 := Lib.hid (HB.out.trans (hb1.mono HB.out.size))
    clear hb1
    go_wp2
    go_ret
    rw [HE.out]
    exact ⟨none, 0, rfl, ⟨rfl, .inl ⟨rfl, rfl⟩⟩, HB1.out⟩
  have HI := Lib.hid hI
  obtain ⟨tt, htt⟩ : ∃ tt, tt = encodeMessage x := ⟨_, rfl⟩
  have HTT := Lib.hid htt
  have HC : Hid (∀ us W, RdLW W (eMessage x) us → Calls Try.prog 28 #[.agg us.toArray] W fun e w' => ∃ A' c', e = .returned (.slice A' tt.length c') ∧ w'.ownsRow W.heap.size 5 1 (.slice A' tt.length c') tt.length (tt.flatMap vsByte) ∧ Below W.heap.size W w') := fun us W hv => by rw [htt]; exact impl_encodeMessage_row us x W hv hI
  clear hI htt
  go_enter Try.func15, Try.ntmps15
  go_wp2_with fail
  refine (impl_isMessage_calls _ x _ (HIM.out.below HB.out) HZ.out).mono ?_
  rintro e w1 ⟨rfl, hb1⟩
  rw [HI.out]
  have HB1 := Lib.hid (HB.out.trans (hb1.mono HB.out.size))
  have HK1 := Lib.hid (HK.out.below hb1)
  obtain ⟨kc, kf⟩ := HK1.out.rules
  have kl := HK1.out.lt
  clear hb1
  go_wp2_with fail
  refine (HC.out _ _ (HIM.out.below HB1.out)).mono ?_
  rintro e w2 ⟨A2, c2, rfl, ho2, hb2⟩
  have HB2 := Lib.hid (HB1.out.trans (hb2.mono HB1.out.size))
  have HO2 := Lib.hid (ho2.mono HB1.out.size)
  clear ho2 hb2
  go_wp2
  go_ret
  rw [← HTT.out]
  exact ⟨A2, c2, rfl, HO2.out, HB2.out⟩
theorem spec_EncodeMessage_calls (us : List Value) (x : GMessage) (w : World) (hr : RdLW w (eMessage x) us) (hz : sizL (eMessage x) ≤ 1048576) :
    Calls Try.prog 42 #[.agg us.toArray] w fun e w' => ∃ v', e = .returned v' ∧ RdW w' (.s (encodeMessage x).length ((encodeMessage x).flatMap eByte)) v' ∧ Below w.heap.size w w' :=
  (spec_EncodeMessage_row us x w hr hz).mono fun e w' ⟨A', c', he, ho, hb⟩ => ⟨_, he, ownsRow_rdw vals_eByte ho (by have := encodeMessage_len x; omega), hb⟩
theorem impl_EncodeMessage_calls (us : List Value) (x : GMessage) (w : World) (hr : RdLW w (eMessage x) us) (hz : sizL (eMessage x) ≤ 1048576) :
    Calls Try.prog 15 #[.agg us.toArray] w fun e w' => ∃ v' fp, e = .returned v' ∧ Own w' (.s (encodeMessage x).length ((encodeMessage x).flatMap eByte)) v' fp ∧ Fresh w fp ∧ Below w.heap.size w w' :=
  (impl_EncodeMessage_row us x w hr hz).mono fun e w' ⟨A', c', he, ho, hb⟩ => by
    obtain ⟨fp, ho', hn', hge⟩ := ownRow_own vals_eByte ho (by have := encodeMessage_len x; omega)
    exact ⟨_, fp, he, ho', ⟨hn', hge⟩, hb⟩
theorem encodeMessage_cnt (x : GMessage) : cntL ((encodeMessage x).flatMap eByte) ≤ 1099511627776 := by
  have h1 := encodeMessage_len x
  rw [cntf_eByte]; omega

end Go.Proofs.Ytklbpjnpmbidiaa
