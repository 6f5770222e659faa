import Derived.Test.YtaalbbhebmpppaaProg
import Derived.Test.YtaalbbhebmpppaaTypes
import Derived.StillTailTactics
import Derived.Deep.CutBlock
import Derived.Deep.CutRange
import Derived.Laws.OwnMore
import Derived.Deep.AppendLies
import Derived.Deep.RegionWith
import Derived.Deep.RegionHeld3
import Derived.Laws.IdiomStrings
import Derived.Test.YtaalbbhebmpppaaAppend
import Derived.Laws.StructEq
import Derived.Lib.SliceRun
import Derived.Shelf.RegionOpenPlain
import Derived.Test.YtaalbbhebmpppaaDrawE5
namespace Go.Proofs.Ytaalbbhebmpppaa
open Go.RowKit
set_option linter.unusedVariables false
set_option linter.unusedSimpArgs false

theorem ownL_flatI {α : Type} {en : α → List Lf} {w : World} {B : Nat} : ∀ {xs : List α} {css : List (List Value)}, css.length = xs.length → (∀ (j : Nat) y, xs[j]? = some y → ∃ cs f, css[j]? = some cs ∧ OwnL w (en y) cs f ∧ ∀ k, k ∈ f → B ≤ k) → ∃ f, OwnL w (xs.flatMap en) (css.flatMap id) f ∧ ∀ k, k ∈ f → B ≤ k
  | [], [], _, _ => ⟨[], OwnL_nil.2 ⟨rfl, rfl⟩, by simp⟩
  | [], _ :: _, h, _ => by simp at h
  | _ :: _, [], h, _ => by simp at h
  | x :: xs, c :: css, hl, h => by
    obtain ⟨cs, f, hc, hr, hf⟩ := h 0 x rfl
    injection hc with hc
    subst hc
    obtain ⟨g, hg, hgb⟩ := ownL_flatI (xs := xs) (css := css) (by simpa using hl) (fun j y hy => h (j + 1) y (by simpa using hy))
    rw [List.flatMap_cons, List.flatMap_cons]
    exact ⟨f ++ g, OwnL.append _ _ _ _ _ _ hr hg, fun k hk => (List.mem_append.1 hk).elim (hf k) (hgb k)⟩
theorem own_cells {w : World} {base : Nat} {e : TypeId} {sz n : Nat} {A : Option Addr} {c : Nat} {us : List Value} {ls : List Lf} {f : List Nat} (h : w.ownsRow base e sz (.slice A n c) n us) (hn : n ≤ 140737488355328) (hr : OwnL w ls us f) (hf : ∀ k, k ∈ f → base ≤ k) : ∃ fp, Own w (.s n ls) (.slice A n c) fp ∧ ∀ k, k ∈ fp → base ≤ k := by
  have h63 : maxLen = 9223372036854775807 := by decide
  by_cases hz : n = 0
  · subst hz
    refine ⟨[], ?_, by simp⟩
    rw [Own]
    refine .inl ⟨rfl, ⟨A, c, rfl, ?_⟩, rfl⟩
    rcases h.2 with ⟨h0, h1⟩ | ⟨g, cap, cur, hv, hb, hg, hnc, hc, hcs, ht⟩
    · injection h0 with h0 h2 h3
      subst h3
      exact ⟨Nat.le_refl _, by omega, by omega⟩
    · injection hv with h0 h2 h3
      subst h3
      exact ⟨hnc, by omega, hn⟩
  · rcases h.2 with ⟨h0, h1⟩ | ⟨g, cap, cur, hv, hb, hg, hnc, hc, hcs, ht⟩
    · exact absurd h1 hz
    · injection hv with h0 h2 h3
      subst h0 h3
      refine ⟨g :: f, ?_, fun k hk => ?_⟩
      · rw [Own]
        refine .inr ⟨by omega, g, _, us, f, rfl, ⟨hnc, by omega, hn⟩, rfl, ?_, ?_, hr⟩
        · rcases Nat.lt_or_ge g w.heap.size with h1 | h1
          · exact h1
          · rw [Array.getElem?_eq_none h1] at hg; cases hg
        · intro k x hx
          refine ⟨?_, ?_⟩
          · rw [cell_of_row w g k cur e (0, 0) hg]
            rw [← ht] at hx
            rw [List.getElem?_take] at hx
            split at hx
            · simpa using hx
            · cases hx
          · unfold World.frozen?; rw [hg]; simp
      · rcases List.mem_cons.1 hk with rfl | hk
        · exact hb
        · exact hf k hk
theorem siz_mem {α : Type} {en : α → List Lf} : ∀ {xs : List α} {i : Nat} {y : α}, xs[i]? = some y → sizL (en y) ≤ sizL (xs.flatMap en)
  | [], _, _, h => by simp at h
  | x :: xs, 0, y, h => by injection h with h; subst h; rw [List.flatMap_cons, sizL_append]; omega
  | x :: xs, i + 1, y, h => by rw [List.flatMap_cons, sizL_append]; have := siz_mem (en := en) (xs := xs) (i := i) (y := y) (by simpa using h); omega
theorem args_len_sent {xs : List GSent} {i : Nat} {y : GSent} (h : xs.length + sizL (xs.flatMap eSent) ≤ 1048576) (hy : xs[i]? = some y) : y.Args.length ≤ 1048576 := by
  have h1 := siz_mem (en := eSent) hy
  rw [siz_eSent] at h1
  omega
set_option maxHeartbeats 6400000 in
set_option maxRecDepth 100000 in
theorem spec_l9CopySents_calls (v : Value) (xs : List GSent) (w : World) (hr : RdW w (.s xs.length (xs.flatMap eSent)) v) (hz : xs.length + sizL (xs.flatMap eSent) ≤ 1048576) (hq : xs.length ≤ 1) :
    Calls Try.prog 77 #[v] w fun e w' => ∃ A' c' fp, e = .returned (.slice A' xs.length c') ∧ Own w' (.s xs.length (xs.flatMap eSent)) (.slice A' xs.length c') fp ∧ (∀ k, k ∈ fp → w.heap.size ≤ k) ∧ Below w.heap.size w w' := by
  obtain ⟨A, c, rfl, ⟨_, _, hl⟩⟩ := hr.slice
  have HR := Lib.hid hr
  clear hr
  have hz1 : xs.length ≤ 1048576 := by omega
  have HZ := Lib.hid hz
  clear hz
  go_enter Try.func77, Try.ntmps77
  go_wp2
  go_loopw [3, 4] (fun a b wr => ∃ (i : Nat) (A' : Option Addr) (c' : Nat) (css : List (List Value)), i ≤ xs.length ∧ a = .slice A' i c' ∧ b = .int .i64 i ∧ Hid (css.length = i) ∧ Hid (wr.ownsRow w.heap.size 71 7 (.slice A' i c') i (css.flatMap id)) ∧ Hid (∀ (j : Nat) y, j < i → xs[j]? = some y → ∃ cs f, css[j]? = some cs ∧ OwnL wr (eSent y) cs f ∧ ∀ k, k ∈ f → w.heap.size ≤ k) ∧ Hid (Below w.heap.size w wr)) (fun a b wr => xs.length - (intOf b).toNat)
  case atStart => exact ⟨0, _, _, [], by omega, rfl, rfl, rfl, ownsRow_made' rfl (Nat.le_refl _), fun j y hj => absurd hj (by omega), (Below.refl _ _).alloc (Nat.le_refl _) _⟩
  case round =>
    obtain ⟨i, A', c', css, hi, rfl, rfl, HN, HO, HP, HB⟩ := hrel
    by_cases hlt : i < xs.length
    · obtain ⟨y, hy⟩ : ∃ y, xs[i]? = some y := ⟨xs[i], List.getElem?_eq_getElem hlt⟩
      obtain ⟨ad, v2, rfl, hab, q0, q1, q2, q3, q4, q5, q6, h2⟩ := row_eSent (HR.out.below HB.out) hy
      obtain ⟨A0, c0, rfl, ⟨_, _, hl2⟩⟩ := h2.slice
      have hab' : (ad.add (i * 7)).block < wr.heap.size := by rw [block_of_add]; exact hab
      have hya : y.Args.length ≤ 1048576 := args_len_sent HZ.out hy
      have hlo := Lib.hid HO.out.lt
      have zr := HB.out.size
      have HX := Lib.hid hy
      have H2 := Lib.hid h2
      clear hy h2
      go_wp2_with (at_builtin; refine wpList_copy_rd rfl _ _ 32 rfl (wr.heap.size + 1) 33 _ _ 2 16 Try.underlying32 rfl rfl rfl rfl rfl (by omega) _ rfl (ownsRow_made' (by simp) (by simp)) vals_eValue y.Args (one_eValue y.Args) (lenv_eValue y.Args) _ _ rfl ((H2.out.alloc _).alloc _) (by omega) (by omega) (by simp) ?_)
      intro A2 c2 w4 hown hgrow
      have hs4 := hgrow.size
      simp only [size_alloc] at hs4
      have HK4 := Lib.hid (((Blk.new wr 71 #[.int .i64 y.Target, .string y.Name, .slice A0 y.Args.length c0, .int .i64 y.Result, .int .i64 y.Tag.Vat, .int .i64 y.Tag.Entity, .int .i64 y.Tag.Seq]).alloc _).chg (grown_chg hgrow) (by simp [Value.ownBlock]))
      have HBW : Hid (Below wr.heap.size wr w4) := (((Below.refl wr.heap.size wr).alloc (Nat.le_refl _) _).alloc (by simp) _).trans (grown_below hgrow (by simp; omega) (by intro k hk; simp [Value.ownBlock] at hk; omega))
      obtain ⟨fA, hoA, _, hfA⟩ := ownRow_own vals_eValue hown (by omega)
      have HOA := Lib.hid hoA
      have HFA := Lib.hid hfA
      have HO4 : Hid (w4.ownsRow w.heap.size 71 7 (.slice A' i c') i (css.flatMap id)) := ownsRow_keep ((HO.out.alloc _).alloc _) (grown_chg hgrow) (fun k hk e => by have := (hlo.out k hk).2; simp [Value.ownBlock] at e; omega)
      clear hown hgrow hoA hfA q0 q1 q2 q3 q4 q5 q6
      obtain ⟨k4, f4⟩ := HK4.out.rules
      have l4 := HK4.out.lt
      go_wp2_with (at_builtin; refine wpList_append_rd rfl _ _ 34 rfl w.heap.size 71 _ _ 7 80 Try.underlying34 rfl rfl rfl rfl rfl (by omega) _ i _ rfl ((ownsRow_keep HO4.out ((Chg.refl (· = wr.heap.size) w4).setCell (p := ⟨wr.heap.size, 2, none⟩) (.inl rfl) _) (fun k hk e => by have := (hlo.out k hk).2; omega)).alloc _) (en := fun us : List Value => us.map Lf.v) (vs := id) (fun _ => rfl) [[.int .i64 y.Target, .string y.Name, .slice A2 y.Args.length c2, .int .i64 y.Result, .int .i64 y.Tag.Vat, .int .i64 y.Tag.Entity, .int .i64 y.Tag.Seq]] (by simp [Value.oneCell']) rfl _ _ rfl (rdW_one' (en := fun us : List Value => us.map Lf.v) (vs := id) (fun _ => rfl) _ 71 (by simp)) (by simp; omega) (by omega) (by simp; omega) ?_)
      intro A3 c3 w5 hown hgrow
      have hs5 := hgrow.size
      simp only [size_alloc, World.setCell] at hs5
      have HB5 : Hid (Below w.heap.size w w5) := by
        have hb4 := HB.out.trans (HBW.out.mono zr)
        refine (((below_chg hb4 ((Chg.refl (· = wr.heap.size) w4).setCell (p := ⟨wr.heap.size, 2, none⟩) (.inl rfl) (.slice A2 y.Args.length c2)) (by omega) (by rintro _ rfl; exact zr)).alloc (by simp [World.setCell]; omega) _).trans (grown_below hgrow (by simp [World.setCell]; omega) (fun k hk => (hlo.out k hk).1)))
      have hoA5 := ((HOA.out.chg ((Chg.refl (· = wr.heap.size) w4).setCell (p := ⟨wr.heap.size, 2, none⟩) (.inl rfl) (.slice A2 y.Args.length c2)) (fun k hk e => by have := HFA.out k hk; omega)).below ((Below.refl _ _).alloc (Nat.le_refl _) _)).chg (grown_chg hgrow) (fun k hk e => by have := HFA.out k hk; have := (hlo.out k e).2; omega)
      have HS5 := Lib.hid (mkown_eSent (x := y) hoA5)
      have HP5 : Hid (∀ (j : Nat) z, j < i + 1 → xs[j]? = some z → ∃ cs f, (css ++ ([[.int .i64 y.Target, .string y.Name, .slice A2 y.Args.length c2, .int .i64 y.Result, .int .i64 y.Tag.Vat, .int .i64 y.Tag.Entity, .int .i64 y.Tag.Seq]] : List (List Value)))[j]? = some cs ∧ OwnL w5 (eSent z) cs f ∧ ∀ k, k ∈ f → w.heap.size ≤ k) := by
        intro j z hj hz
        by_cases hji : j < i
        · exact absurd hji (by omega)
        · have hj : j = i := by omega
          subst hj
          have hk := HN.out
          have hx := HX.out
          rw [hx] at hz
          injection hz with hz
          subst hz
          exact ⟨_, fA, by rw [List.getElem?_append_right (by omega), hk]; simp, HS5.out, fun k hk => by have := HFA.out k hk; omega⟩
      have HO5 : Hid (w5.ownsRow w.heap.size 71 7 (.slice A3 (i + 1) c3) (i + 1) ((css ++ ([[.int .i64 y.Target, .string y.Name, .slice A2 y.Args.length c2, .int .i64 y.Result, .int .i64 y.Tag.Vat, .int .i64 y.Tag.Entity, .int .i64 y.Tag.Seq]] : List (List Value))).flatMap id)) := by
        unfold Hid; simpa using hown
      have HN5 : Hid ((css ++ ([[.int .i64 y.Target, .string y.Name, .slice A2 y.Args.length c2, .int .i64 y.Result, .int .i64 y.Tag.Vat, .int .i64 y.Tag.Entity, .int .i64 y.Tag.Seq]] : List (List Value))).length = i + 1) := by
        unfold Hid; rw [List.length_append, HN.out]; rfl
      clear hown hgrow hoA5 k4 f4
      go_wp2
      go_roundw
      case rel => exact ⟨i + 1, A3, c3, _, by omega, rfl, by go_num, HN5, HO5, HP5, HB5⟩
      case measure => simp [intOf]; omega
    · have : i = xs.length := by omega
      subst this
      go_wp2
      go_ret
      obtain ⟨f, hf, hfb⟩ := ownL_flatI HN.out (fun j y hy => HP.out j y (List.getElem?_eq_some_iff.1 hy).1 hy)
      obtain ⟨fp, ho, hb⟩ := own_cells HO.out (by omega) hf hfb
      exact ⟨A', c', fp, rfl, ho, hb, HB.out⟩
set_option maxHeartbeats 6400000 in
set_option maxRecDepth 100000 in
theorem spec_l9Copy_calls (us : List Value) (x : GEntity) (w : World) (hr : RdLW w (eEntity x) us) (h3 : x.Slots.length ≤ 3) (h1 : x.Queue.length ≤ 1) (h1' : x.Askers.length ≤ 1) (hz : x.Queue.length + sizL (x.Queue.flatMap eSent) ≤ 1048576) :
    Calls Try.prog 49 #[.agg us.toArray] w fun e w' => ∃ v2 v6 v7, e = .returned (.agg (entC x v2 v6 v7)) ∧ EntS w.heap.size w' x.Slots x.Queue x.Askers v2 v6 v7 ∧ Below w.heap.size w w' := by
  obtain ⟨v2, v6, v7, rfl, h2, h6, h7⟩ := rd_eEntity hr
  obtain ⟨A2, c2, rfl, -⟩ := h2.slice
  obtain ⟨A6, c6, rfl, -⟩ := h6.slice
  obtain ⟨A7, c7, rfl, -⟩ := h7.slice
  have HR2 := Lib.hid h2
  have HR6 := Lib.hid h6
  have HR7 := Lib.hid h7
  have HZ := Lib.hid hz
  clear hr h2 h6 h7 hz
  go_enter Try.func49, Try.ntmps49
  go_wp2_with (at_builtin; refine wpList_copy_rd rfl _ _ 32 rfl (w.heap.size + 3) 33 _ _ 2 16 Try.underlying32 rfl rfl rfl rfl rfl (by omega) _ rfl (ownsRow_made' (by simp) (by simp)) vals_eValue x.Slots (one_eValue x.Slots) (lenv_eValue x.Slots) _ _ rfl ((((HR2.out.alloc _).alloc _).alloc _).alloc _) (by omega) (by omega) (by simp) ?_)
  intro B2 d2 w4 hown hgrow
  have hs4 := hgrow.size
  simp only [size_alloc] at hs4
  have HK0 := Lib.hid (((((Blk.new w 37 #[.int .i64 x.Kind, .int .i64 x.Script, .slice A2 x.Slots.length c2, .int .i64 x.State, .int .i64 x.Value.Kind, .int .i64 x.Value.N, .slice A6 x.Queue.length c6, .slice A7 x.Askers.length c7, .int .i64 x.Peer, .int .i64 x.Pos, .int .i64 x.Count, .int .i64 x.Sent]).alloc (.cells #[.int .i64 0, .int .i64 0, .slice none 0 0, .int .i64 0, .int .i64 0, .int .i64 0, .slice none 0 0, .slice none 0 0, .int .i64 0, .int .i64 0, .int .i64 0, .int .i64 0] 37)).alloc (.cells #[.int .i64 x.Kind, .int .i64 x.Script, .slice A2 x.Slots.length c2, .int .i64 x.State, .int .i64 x.Value.Kind, .int .i64 x.Value.N, .slice A6 x.Queue.length c6, .slice A7 x.Askers.length c7, .int .i64 x.Peer, .int .i64 x.Pos, .int .i64 x.Count, .int .i64 x.Sent] 37)).alloc (.cells #[] 33)).chg (grown_chg hgrow) (by simp [Value.ownBlock]; omega))
  have HK1 : Hid (Blk w4 (w.heap.size + 1) 37 #[.int .i64 0, .int .i64 0, .slice none 0 0, .int .i64 0, .int .i64 0, .int .i64 0, .slice none 0 0, .slice none 0 0, .int .i64 0, .int .i64 0, .int .i64 0, .int .i64 0]) := (((Blk.made (w := w.alloc (.cells #[.int .i64 x.Kind, .int .i64 x.Script, .slice A2 x.Slots.length c2, .int .i64 x.State, .int .i64 x.Value.Kind, .int .i64 x.Value.N, .slice A6 x.Queue.length c6, .slice A7 x.Askers.length c7, .int .i64 x.Peer, .int .i64 x.Pos, .int .i64 x.Count, .int .i64 x.Sent] 37)) (by simp)).alloc (.cells #[.int .i64 x.Kind, .int .i64 x.Script, .slice A2 x.Slots.length c2, .int .i64 x.State, .int .i64 x.Value.Kind, .int .i64 x.Value.N, .slice A6 x.Queue.length c6, .slice A7 x.Askers.length c7, .int .i64 x.Peer, .int .i64 x.Pos, .int .i64 x.Count, .int .i64 x.Sent] 37)).alloc (.cells #[] 33)).chg (grown_chg hgrow) (by simp [Value.ownBlock]; omega)
  have HK2 : Hid (Blk w4 (w.heap.size + 2) 37 #[.int .i64 x.Kind, .int .i64 x.Script, .slice A2 x.Slots.length c2, .int .i64 x.State, .int .i64 x.Value.Kind, .int .i64 x.Value.N, .slice A6 x.Queue.length c6, .slice A7 x.Askers.length c7, .int .i64 x.Peer, .int .i64 x.Pos, .int .i64 x.Count, .int .i64 x.Sent]) := ((Blk.made (w := (w.alloc (.cells #[.int .i64 x.Kind, .int .i64 x.Script, .slice A2 x.Slots.length c2, .int .i64 x.State, .int .i64 x.Value.Kind, .int .i64 x.Value.N, .slice A6 x.Queue.length c6, .slice A7 x.Askers.length c7, .int .i64 x.Peer, .int .i64 x.Pos, .int .i64 x.Count, .int .i64 x.Sent] 37)).alloc (.cells #[.int .i64 0, .int .i64 0, .slice none 0 0, .int .i64 0, .int .i64 0, .int .i64 0, .slice none 0 0, .slice none 0 0, .int .i64 0, .int .i64 0, .int .i64 0, .int .i64 0] 37)) (by simp)).alloc (.cells #[] 33)).chg (grown_chg hgrow) (by simp [Value.ownBlock])
  have HB4 : Hid (Below w.heap.size w w4) := (((((Below.refl w.heap.size w).alloc (Nat.le_refl _) _).alloc (by simp) _).alloc (by simp; omega) _).alloc (by simp; omega) _).trans (grown_below hgrow (by simp; omega) (by intro k hk; simp [Value.ownBlock] at hk; omega))
  obtain ⟨f2, ho2, _, hf2⟩ := ownRow_own vals_eValue hown (by omega)
  have HO2 := Lib.hid ho2
  have HF2 := Lib.hid hf2
  clear hown hgrow ho2 hf2
  obtain ⟨k0, f0⟩ := HK0.out.rules
  obtain ⟨k1, f1⟩ := HK1.out.rules
  obtain ⟨k2, f2'⟩ := HK2.out.rules
  have l0 := HK0.out.lt
  have l1 := HK1.out.lt
  have l2 := HK2.out.lt
  go_wp2_with fail
  obtain ⟨ws, hws⟩ : ∃ ws, ws = w4.setCell ⟨w.heap.size + 2, 2, none⟩ (.slice B2 x.Slots.length d2) := ⟨_, rfl⟩
  have hcs : Chg (· = w.heap.size + 2) w4 ws := by rw [hws]; exact (Chg.refl (· = w.heap.size + 2) w4).setCell (p := ⟨w.heap.size + 2, 2, none⟩) (.inl rfl) _
  have hzs : ws.heap.size = w4.heap.size := by rw [hws]; simp [World.setCell]
  have HBS := Lib.hid (below_chg HB4.out hcs (by omega) (by rintro _ rfl; omega))
  refine (spec_l9CopySents_calls _ x.Queue _ (by rw [← hws]; exact HR6.out.below HBS.out) HZ.out h1).mono ?_
  rintro e w5 ⟨B6, d6, f6, rfl, hq5, hf6, hb5⟩
  rw [← hws] at hb5
  have HQ5 := Lib.hid hq5
  have HF6 : Hid (∀ k, k ∈ f6 → w4.heap.size ≤ k) := by unfold Hid; have h := hf6; simpa [World.setCell] using h
  have hs5 := hb5.size
  have HK0a := Lib.hid ((HK0.out.chg hcs (by omega)).below hb5)
  have HK1a := Lib.hid ((HK1.out.chg hcs (by omega)).below hb5)
  have HK2a : Hid (Blk w5 (w.heap.size + 2) 37 (#[.int .i64 x.Kind, .int .i64 x.Script, .slice A2 x.Slots.length c2, .int .i64 x.State, .int .i64 x.Value.Kind, .int .i64 x.Value.N, .slice A6 x.Queue.length c6, .slice A7 x.Askers.length c7, .int .i64 x.Peer, .int .i64 x.Pos, .int .i64 x.Count, .int .i64 x.Sent].setIfInBounds 2 (.slice B2 x.Slots.length d2))) := by
    have h := HK2.out.set_ 2 (.slice B2 x.Slots.length d2)
    rw [← hws] at h
    exact h.below hb5
  have HO2a := Lib.hid ((HO2.out.chg hcs (fun k hk e => by have := HF2.out k hk; omega)).below hb5)
  have HBa := Lib.hid (HBS.out.trans (hb5.mono (by omega)))
  clear hq5 hf6 hb5 hcs hws k0 f0 k1 f1 k2 f2' l0 l1 l2
  simp only [List.setIfInBounds_toArray, List.set_cons_zero, List.set_cons_succ] at HK2a
  obtain ⟨k0, f0⟩ := HK0a.out.rules
  obtain ⟨k1, f1⟩ := HK1a.out.rules
  obtain ⟨k2, f2'⟩ := HK2a.out.rules
  have l0 := HK0a.out.lt
  have l1 := HK1a.out.lt
  have l2 := HK2a.out.lt
  have HC5 : Hid (Chg (· = w.heap.size + 2) w5 (w5.setCell ⟨w.heap.size + 2, 6, none⟩ (.slice B6 x.Queue.length d6))) := (Chg.refl (· = w.heap.size + 2) w5).setCell (p := ⟨w.heap.size + 2, 6, none⟩) (.inl rfl) _
  have HB5 := Lib.hid (below_chg HBa.out HC5.out (by omega) (by rintro _ rfl; omega))
  go_wp2_with (at_builtin; refine wpList_copy_rd rfl _ _ 35 rfl w5.heap.size 93 _ _ 2 16 Try.underlying35 rfl rfl rfl rfl rfl (by omega) _ rfl (ownsRow_made' (by simp [World.setCell]) (by simp [World.setCell])) vals_eAsker x.Askers (one_eAsker x.Askers) (lenv_eAsker x.Askers) _ _ rfl ((HR7.out.below HB5.out).alloc _) (by omega) (by omega) (by simp [World.setCell]) ?_)
  intro B7 d7 w6 hown hgrow
  have hs6 := hgrow.size
  simp only [size_alloc, World.setCell] at hs6
  have HK1b := Lib.hid (((HK1a.out.chg HC5.out (by omega)).alloc (.cells #[] 93)).chg (grown_chg hgrow) (by simp [Value.ownBlock]; omega))
  have HK2b := Lib.hid ((((HK2a.out.set_ 6 (.slice B6 x.Queue.length d6))).alloc (.cells #[] 93)).chg (grown_chg hgrow) (by simp [Value.ownBlock]; omega))
  obtain ⟨f7, ho7, _, hf7⟩ := ownRow_own vals_eAsker hown (by omega)
  have HO7 := Lib.hid ho7
  have HF7 := Lib.hid hf7
  have HB6 : Hid (Below w.heap.size w w6) := (HB5.out.alloc HB5.out.size _).trans (grown_below hgrow (by simp [World.setCell]; omega) (by intro k hk; simp [Value.ownBlock] at hk; omega))
  have HBQ : Hid (Below w5.heap.size (w5.setCell ⟨w.heap.size + 2, 6, none⟩ (.slice B6 x.Queue.length d6)) w6) := ((Below.refl _ _).alloc (by simp [World.setCell]) _).trans (grown_below hgrow (by simp [World.setCell]) (by intro k hk; simp [Value.ownBlock] at hk; omega))
  have HO2b : Hid (Own w6 (.s x.Slots.length (x.Slots.flatMap eValue)) (.slice B2 x.Slots.length d2) f2) := by
    unfold Hid
    refine (HO2a.out.chg HC5.out (fun k hk e => by have := HF2.out k hk; omega)).below ?_
    simpa [World.setCell] using HBQ.out
  clear hown hgrow ho7 hf7 k0 f0 k1 f1 k2 f2' l0 l1 l2
  simp only [List.setIfInBounds_toArray, List.set_cons_zero, List.set_cons_succ] at HK2b
  obtain ⟨k1, f1⟩ := HK1b.out.rules
  obtain ⟨k2, f2'⟩ := HK2b.out.rules
  have l1 := HK1b.out.lt
  have l2 := HK2b.out.lt
  have HO6b : Hid (Own w6 (.s x.Queue.length (x.Queue.flatMap eSent)) (.slice B6 x.Queue.length d6) f6) := by
    unfold Hid
    refine (HQ5.out.chg HC5.out (fun k hk e => by have := HF6.out k hk; omega)).below ?_
    simpa [World.setCell] using HBQ.out
  go_wp2
  have hC7 : Chg (· = w.heap.size + 2) w6 (w6.setCell ⟨w.heap.size + 2, 7, none⟩ (.slice B7 x.Askers.length d7)) := (Chg.refl (· = w.heap.size + 2) w6).setCell (p := ⟨w.heap.size + 2, 7, none⟩) (.inl rfl) _
  have HKf := Lib.hid (HK1b.out.chg hC7 (by omega))
  refine post_cell (w0 := w6.setCell ⟨w.heap.size + 2, 7, none⟩ (.slice B7 x.Askers.length d7)) (fun g => g = w.heap.size + 1) Try.results49 (w.heap.size + 1) #[.int .i64 x.Kind, .int .i64 x.Script, .slice B2 x.Slots.length d2, .int .i64 x.State, .int .i64 x.Value.Kind, .int .i64 x.Value.N, .slice B6 x.Queue.length d6, .slice B7 x.Askers.length d7, .int .i64 x.Peer, .int .i64 x.Pos, .int .i64 x.Count, .int .i64 x.Sent] _ rfl (Blk.eq ((((((((((((HKf.out.set_ 0 (.int .i64 x.Kind)).set_ 1 (.int .i64 x.Script)).set_ 2 (.slice B2 x.Slots.length d2)).set_ 3 (.int .i64 x.State)).set_ 4 (.int .i64 x.Value.Kind)).set_ 5 (.int .i64 x.Value.N)).set_ 6 (.slice B6 x.Queue.length d6)).set_ 7 (.slice B7 x.Askers.length d7)).set_ 8 (.int .i64 x.Peer)).set_ 9 (.int .i64 x.Pos)).set_ 10 (.int .i64 x.Count)).set_ 11 (.int .i64 x.Sent)) (by simp)) Try.underlying37 rfl (by kernel_rfl) rfl (((((((((((((Chg.refl (· = w.heap.size + 1) _).setCell (p := ⟨w.heap.size + 1, 0, none⟩) (.inl rfl) (.int .i64 x.Kind)).setCell (p := ⟨w.heap.size + 1, 1, none⟩) (.inl rfl) (.int .i64 x.Script)).setCell (p := ⟨w.heap.size + 1, 2, none⟩) (.inl rfl) (.slice B2 x.Slots.length d2)).setCell (p := ⟨w.heap.size + 1, 3, none⟩) (.inl rfl) (.int .i64 x.State)).setCell (p := ⟨w.heap.size + 1, 4, none⟩) (.inl rfl) (.int .i64 x.Value.Kind)).setCell (p := ⟨w.heap.size + 1, 5, none⟩) (.inl rfl) (.int .i64 x.Value.N)).setCell (p := ⟨w.heap.size + 1, 6, none⟩) (.inl rfl) (.slice B6 x.Queue.length d6)).setCell (p := ⟨w.heap.size + 1, 7, none⟩) (.inl rfl) (.slice B7 x.Askers.length d7)).setCell (p := ⟨w.heap.size + 1, 8, none⟩) (.inl rfl) (.int .i64 x.Peer)).setCell (p := ⟨w.heap.size + 1, 9, none⟩) (.inl rfl) (.int .i64 x.Pos)).setCell (p := ⟨w.heap.size + 1, 10, none⟩) (.inl rfl) (.int .i64 x.Count)).setCell (p := ⟨w.heap.size + 1, 11, none⟩) (.inl rfl) (.int .i64 x.Sent)) ?_
  intro W hW
  refine ⟨_, _, _, rfl, ⟨f2, f6, f7, (HO2b.out.chg hC7 (fun k hk e => by have := HF2.out k hk; omega)).chg hW (fun k hk e => by have := HF2.out k hk; omega), (HO6b.out.chg hC7 (fun k hk e => by have := HF6.out k hk; omega)).chg hW (fun k hk e => by have := HF6.out k hk; omega), (HO7.out.chg hC7 (fun k hk e => by have := HF7.out k hk; omega)).chg hW (fun k hk e => by have := HF7.out k hk; omega), fun k hk => ?_⟩, ?_⟩
  · rcases List.mem_append.1 hk with h | h
    · have := HF2.out k h; omega
    · rcases List.mem_append.1 h with h | h
      · have := HF6.out k h; omega
      · have := HF7.out k h; omega
  exact below_chg (below_chg HB6.out hC7 (by omega) (by rintro _ rfl; omega)) hW (by simp [World.setCell]; omega) (by rintro _ rfl; omega)

end Go.Proofs.Ytaalbbhebmpppaa
