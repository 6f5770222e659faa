import Derived.Test.YtlpjbipgocgioaaProg
import Derived.Test.YtlpjbipgocgioaaTypes
import Derived.StillTailTactics
import Derived.Deep.RegionHeld3
import Derived.Laws.IdiomStrings
import Derived.Test.YtlpjbipgocgioaaAppend
import Derived.Laws.StructEq
import Derived.Lib.SliceRun
import Derived.Shelf.RegionOpenPlain
import Derived.Test.YtlpjbipgocgioaaHelp
import Derived.Test.YtlpjbipgocgioaaPureLink
import Derived.Test.YtlpjbipgocgioaaSlices
namespace Go.Proofs.Ytlpjbipgocgioaa
open Go.RowKit
set_option linter.unusedVariables false
set_option linter.unusedSimpArgs false

set_option maxHeartbeats 400000 in
theorem impl_Link_of1_calls (B : Nat) (y : GExport) (us : List Value) (a : Int) (W : World) (hb : Blk W B 3 #[.int .i64 a]) (hr : RdLW W (eExport y) us) :
    Calls Try.prog 36 #[.agg us.toArray, .pointer (some ⟨B, 0, none⟩)] W fun e w' => e = .returned (.bool (y.Entity == a)) ∧ Below W.heap.size W w' := by
  obtain rfl := rd_eExport hr
  obtain ⟨k0, k1⟩ := hb.rules
  have hlt := hb.lt
  clear hr
  go_enter Try.func36, Try.ntmps36
  go_wp2
  go_ret
  exact ⟨rfl, (Below.refl _ _).alloc (Nat.le_refl _) _⟩
set_option maxHeartbeats 400000 in
theorem impl_Link_of_calls (g : Nat) (us : List Value) (x : GLink) (a : Int) (w : World) (hb : Blk w g 30 us.toArray) (hr : RdLW w (eLink x) us) :
    Calls Try.prog 34 #[.pointer (some ⟨g, 0, none⟩), .int .i64 a] w fun e w' => e = .returned (.int .i64 (idx (fun y : GExport => y.Entity == a) x.Exports)) ∧ Below w.heap.size w w' := by
  obtain ⟨v2, v4, v6, rfl, h2, h4, h6⟩ := rd_eLink hr
  obtain ⟨A, c, rfl, ⟨_, _, hl⟩⟩ := h2.slice
  have HR := Lib.hid h2
  clear hr h2 h4 h6
  obtain ⟨k0, k1⟩ := hb.rules
  have hlt := hb.lt
  have hcon := slices_IndexFunc_Export (fun y : GExport => y.Entity == a) 36 #[.pointer (some ⟨w.heap.size, 0, none⟩)] (enters_of Try.func36 (by kernel_rfl) rfl) _ x.Exports (w.alloc (.cells #[.int .i64 a] 3)) (HR.out.alloc _)
    (fun W y us hW hy hus => impl_Link_of1_calls w.heap.size y us a W ((Blk.new w _ _).below hW) hus)
  have HC := Lib.hid hcon
  clear hcon
  go_enter Try.func34, Try.ntmps34
  go_wp2_with (go_at_call 35; refine HC.out.mono ?_; rintro e w' ⟨rfl, hb'⟩)
  go_ret
  exact ⟨rfl, ((Below.refl _ _).alloc (Nat.le_refl _) _).trans (hb'.mono (by simp only [size_alloc]; omega))⟩
/-- a link's three slices, each in a row of the call's own -/
structure CopL (B : Nat) (w : World) (x : GLink) (A2 : Option Addr) (c2 : Nat) (A4 : Option Addr) (c4 : Nat) (A6 : Option Addr) (c6 : Nat) : Prop where
  r2 : w.ownsRow B 51 3 (.slice A2 x.Exports.length c2) x.Exports.length (x.Exports.flatMap vsExport)
  r4 : w.ownsRow B 41 2 (.slice A4 x.Questions.length c4) x.Questions.length (x.Questions.flatMap vsQuestion)
  r6 : w.ownsRow B 41 2 (.slice A6 x.Answers.length c6) x.Answers.length (x.Answers.flatMap vsQuestion)
  d24 : ∀ k, (Value.slice A2 x.Exports.length c2).ownBlock = some k → (Value.slice A4 x.Questions.length c4).ownBlock ≠ some k
  d26 : ∀ k, (Value.slice A2 x.Exports.length c2).ownBlock = some k → (Value.slice A6 x.Answers.length c6).ownBlock ≠ some k
  d46 : ∀ k, (Value.slice A4 x.Questions.length c4).ownBlock = some k → (Value.slice A6 x.Answers.length c6).ownBlock ≠ some k
theorem CopL.keep {B : Nat} {w w' : World} {x : GLink} {A2 : Option Addr} {c2 : Nat} {A4 : Option Addr} {c4 : Nat} {A6 : Option Addr} {c6 : Nat} (h : CopL B w x A2 c2 A4 c4 A6 c6) {T : Nat → Prop} (hc : Chg T w w') (hT : ∀ k, B ≤ k → k < w.heap.size → ¬ T k) : CopL B w' x A2 c2 A4 c4 A6 c6 :=
  ⟨ownsRow_keep h.r2 hc (fun k hk => hT k (h.r2.lt k hk).1 (h.r2.lt k hk).2), ownsRow_keep h.r4 hc (fun k hk => hT k (h.r4.lt k hk).1 (h.r4.lt k hk).2), ownsRow_keep h.r6 hc (fun k hk => hT k (h.r6.lt k hk).1 (h.r6.lt k hk).2), h.d24, h.d26, h.d46⟩
set_option maxHeartbeats 1600000 in
set_option maxRecDepth 100000 in
theorem spec_l10Copy_calls (us : List Value) (x : GLink) (w : World) (hr : RdLW w (eLink x) us) (hz : sizL (eLink x) ≤ 1048576) :
    Calls Try.prog 16 #[.agg us.toArray] w fun e w' => ∃ A2 c2 A4 c4 A6 c6, e = .returned (.agg #[.int .i64 x.Peer, .bool x.Up, .slice A2 x.Exports.length c2, .int .i64 x.Next, .slice A4 x.Questions.length c4, .int .i64 x.Asked, .slice A6 x.Answers.length c6]) ∧ CopL (w.heap.size + 3) w' x A2 c2 A4 c4 A6 c6 ∧ Below w.heap.size w w' := by
  obtain ⟨v2, v4, v6, rfl, h2, h4, h6⟩ := rd_eLink hr
  obtain ⟨A, c, rfl, ⟨_, _, hl⟩⟩ := h2.slice
  obtain ⟨A4, c4, rfl, ⟨_, _, hl4⟩⟩ := h4.slice
  obtain ⟨A6, c6, rfl, ⟨_, _, hl6⟩⟩ := h6.slice
  have hzq := hz
  rw [siz_eLink] at hzq
  have HR2 := Lib.hid h2
  have HR4 := Lib.hid h4
  have HR6 := Lib.hid h6
  clear hr h2 h4 h6 hz
  go_enter Try.func16, Try.ntmps16
  go_wp2_with (at_builtin; refine wpList_copy_rd rfl _ _ 27 rfl (w.heap.size + 3) 51 _ _ 3 24 Try.underlying27 rfl rfl rfl rfl rfl (by omega) _ rfl (ownsRow_made' (by simp) (by simp)) vals_eExport x.Exports (one_eExport x.Exports) (lenv_eExport x.Exports) _ _ rfl ((((HR2.out.alloc _).alloc _).alloc _).alloc _) (by omega) (by omega) (by simp) ?_)
  intro B2 d2 w1 o1 g1
  have z1 : w.heap.size + 4 ≤ w1.heap.size := by have := g1.size; simpa using this
  have K0 : Hid (Blk w1 w.heap.size 30 #[.int .i64 x.Peer, .bool x.Up, .slice A x.Exports.length c, .int .i64 x.Next, .slice A4 x.Questions.length c4, .int .i64 x.Asked, .slice A6 x.Answers.length c6]) := Lib.hid (((((Blk.new w _ _).alloc _).alloc _).alloc _).chg (grown_chg g1) (by first | (simp [Value.ownBlock]; done) | (simp [Value.ownBlock]; omega)))
  have K1 : Hid (Blk w1 (w.heap.size + 1) 30 #[.int .i64 0, .bool false, .slice none 0 0, .int .i64 0, .slice none 0 0, .int .i64 0, .slice none 0 0]) := Lib.hid ((((Blk.made (w := w.alloc _) (by simp)).alloc _).alloc _).chg (grown_chg g1) (by first | (simp [Value.ownBlock]; done) | (simp [Value.ownBlock]; omega)))
  have K2 : Hid (Blk w1 (w.heap.size + 1 + 1) 30 #[.int .i64 x.Peer, .bool x.Up, .slice A x.Exports.length c, .int .i64 x.Next, .slice A4 x.Questions.length c4, .int .i64 x.Asked, .slice A6 x.Answers.length c6]) := Lib.hid (((Blk.made (w := (w.alloc _).alloc _) (by simp)).alloc _).chg (grown_chg g1) (by first | (simp [Value.ownBlock]; done) | (simp [Value.ownBlock]; omega)))
  have HB1 := Lib.hid ((((((Below.refl w.heap.size w).alloc (Nat.le_refl _) _).alloc (by simp) _).alloc (by simp; omega) _).alloc (by simp; omega) _).trans (grown_below g1 (by simp; omega) (by intro k hk; simp [Value.ownBlock] at hk; omega)))
  have O2 := Lib.hid o1
  obtain ⟨k0, j0⟩ := K0.out.rules
  obtain ⟨k1, j1⟩ := K1.out.rules
  obtain ⟨k2, j2⟩ := K2.out.rules
  have l0 := K0.out.lt
  have l1 := K1.out.lt
  have l2 := K2.out.lt
  clear o1 g1
  go_wp2_with (at_builtin; refine wpList_copy_rd rfl _ _ 28 rfl (w1.heap.size) 41 _ _ 2 16 Try.underlying28 rfl rfl rfl rfl rfl (by omega) _ rfl (ownsRow_made' (by simp [World.setCell]) (by simp [World.setCell])) vals_eQuestion x.Questions (one_eQuestion x.Questions) (lenv_eQuestion x.Questions) _ _ rfl ((HR4.out.below (below_chg HB1.out ((Chg.refl (· = w.heap.size + 1 + 1) w1).setCell (p := ⟨w.heap.size + 1 + 1, 2, none⟩) (.inl rfl) _) HB1.out.size (fun i hi => by omega))).alloc _) (by omega) (by omega) (by simp [World.setCell]) ?_)
  intro B4 d4 w2 o2 g2
  have z2 : w1.heap.size + 1 ≤ w2.heap.size := by have := g2.size; simpa [World.setCell] using this
  have C2 : Chg (fun k => k = w.heap.size + 1 + 1 ∨ k = w1.heap.size) w1 w2 := (((Chg.refl _ w1).setCell (p := ⟨w.heap.size + 1 + 1, 2, none⟩) (.inl (.inl rfl)) _).alloc _).trans ((grown_chg g2).mono (fun k _ h => .inr (by simp [Value.ownBlock, World.setCell] at h; omega)))
  have HB2 := Lib.hid (below_chg HB1.out C2 HB1.out.size (fun i hi => by omega))
  have K02 := Lib.hid (K0.out.chg C2 (by omega))
  have K12 := Lib.hid (K1.out.chg C2 (by omega))
  have K22 : Hid (Blk w2 (w.heap.size + 1 + 1) 30 #[.int .i64 x.Peer, .bool x.Up, .slice B2 x.Exports.length d2, .int .i64 x.Next, .slice A4 x.Questions.length c4, .int .i64 x.Asked, .slice A6 x.Answers.length c6]) := Lib.hid (Blk.eq (((K2.out.set_ 2 _).alloc _).chg (grown_chg g2) (by first | (simp [Value.ownBlock, World.setCell]; done) | (simp [Value.ownBlock, World.setCell]; omega))) (by simp))
  have C_2 := Lib.hid C2
  have P2 := Lib.hid o2
  clear k0 j0 k1 j1 k2 j2 l0 l1 l2
  obtain ⟨k0, j0⟩ := K02.out.rules
  obtain ⟨k1, j1⟩ := K12.out.rules
  obtain ⟨k2, j2⟩ := K22.out.rules
  have l0 := K02.out.lt
  have l1 := K12.out.lt
  have l2 := K22.out.lt
  clear o2 g2 C2
  go_wp2_with (at_builtin; refine wpList_copy_rd rfl _ _ 28 rfl (w2.heap.size) 41 _ _ 2 16 Try.underlying28 rfl rfl rfl rfl rfl (by omega) _ rfl (ownsRow_made' (by simp [World.setCell]) (by simp [World.setCell])) vals_eQuestion x.Answers (one_eQuestion x.Answers) (lenv_eQuestion x.Answers) _ _ rfl ((HR6.out.below (below_chg HB2.out ((Chg.refl (· = w.heap.size + 1 + 1) w2).setCell (p := ⟨w.heap.size + 1 + 1, 4, none⟩) (.inl rfl) _) HB2.out.size (fun i hi => by omega))).alloc _) (by omega) (by omega) (by simp [World.setCell]) ?_)
  intro B6 d6 w3 o3 g3
  have z3 : w2.heap.size + 1 ≤ w3.heap.size := by have := g3.size; simpa [World.setCell] using this
  have C3 : Chg (fun k => k = w.heap.size + 1 + 1 ∨ k = w2.heap.size) w2 w3 := (((Chg.refl _ w2).setCell (p := ⟨w.heap.size + 1 + 1, 4, none⟩) (.inl (.inl rfl)) _).alloc _).trans ((grown_chg g3).mono (fun k _ h => .inr (by simp [Value.ownBlock, World.setCell] at h; omega)))
  have HB3 := Lib.hid (below_chg HB2.out C3 HB2.out.size (fun i hi => by omega))
  have K03 := Lib.hid (K02.out.chg C3 (by omega))
  have K13 := Lib.hid (K12.out.chg C3 (by omega))
  have K23 : Hid (Blk w3 (w.heap.size + 1 + 1) 30 #[.int .i64 x.Peer, .bool x.Up, .slice B2 x.Exports.length d2, .int .i64 x.Next, .slice B4 x.Questions.length d4, .int .i64 x.Asked, .slice A6 x.Answers.length c6]) := Lib.hid (Blk.eq (((K22.out.set_ 4 _).alloc _).chg (grown_chg g3) (by first | (simp [Value.ownBlock, World.setCell]; done) | (simp [Value.ownBlock, World.setCell]; omega))) (by simp))
  have C_3 := Lib.hid C3
  have P3 := Lib.hid o3
  clear k0 j0 k1 j1 k2 j2 l0 l1 l2
  obtain ⟨k0, j0⟩ := K03.out.rules
  obtain ⟨k1, j1⟩ := K13.out.rules
  obtain ⟨k2, j2⟩ := K23.out.rules
  have l0 := K03.out.lt
  have l1 := K13.out.lt
  have l2 := K23.out.lt
  clear o3 g3 C3
  go_wp2
  refine post_cell (w0 := w3) (fun k => k = w.heap.size + 1 ∨ k = w.heap.size + 1 + 1) Try.results16 (w.heap.size + 1) #[.int .i64 x.Peer, .bool x.Up, .slice B2 x.Exports.length d2, .int .i64 x.Next, .slice B4 x.Questions.length d4, .int .i64 x.Asked, .slice B6 x.Answers.length d6] _ rfl (Blk.eq ((((((((K13.out.far (by simp) _).set_ 0 _).set_ 1 _).set_ 2 _).set_ 3 _).set_ 4 _).set_ 5 _).set_ 6 _) (by simp)) Try.underlying30 rfl (by kernel_rfl) rfl (((((((((Chg.refl (fun k => k = w.heap.size + 1 ∨ k = w.heap.size + 1 + 1) w3).setCell (p := ⟨w.heap.size + 1 + 1, 6, none⟩) (.inl (.inr rfl)) _).setCell (p := ⟨w.heap.size + 1, 0, none⟩) (.inl (.inl rfl)) _).setCell (p := ⟨w.heap.size + 1, 1, none⟩) (.inl (.inl rfl)) _).setCell (p := ⟨w.heap.size + 1, 2, none⟩) (.inl (.inl rfl)) _).setCell (p := ⟨w.heap.size + 1, 3, none⟩) (.inl (.inl rfl)) _).setCell (p := ⟨w.heap.size + 1, 4, none⟩) (.inl (.inl rfl)) _).setCell (p := ⟨w.heap.size + 1, 5, none⟩) (.inl (.inl rfl)) _).setCell (p := ⟨w.heap.size + 1, 6, none⟩) (.inl (.inl rfl)) _) ?_
  intro W hW
  have L2 := O2.out.lt
  have L4 := P2.out.lt
  have L6 := P3.out.lt
  have Q2 := ownsRow_keep (ownsRow_keep (ownsRow_keep O2.out C_2.out (fun k hk => by have := L2 k hk; omega)) C_3.out (fun k hk => by have := L2 k hk; omega)) hW (fun k hk => by have := L2 k hk; omega)
  have Q4 := ownsRow_keep (ownsRow_keep P2.out C_3.out (fun k hk => by have := L4 k hk; omega)) hW (fun k hk => by have := L4 k hk; omega)
  have Q6 := ownsRow_keep P3.out hW (fun k hk => by have := L6 k hk; omega)
  exact ⟨B2, d2, B4, d4, B6, d6, rfl, ⟨Q2, Q4.mono (by omega), Q6.mono (by omega), fun k h1 h2 => by have e1 := L2 k h1; have e2 := L4 k h2; omega, fun k h1 h2 => by have e1 := L2 k h1; have e2 := L6 k h2; omega, fun k h1 h2 => by have e1 := L4 k h1; have e2 := L6 k h2; omega⟩, below_chg HB3.out hW HB3.out.size (fun i hi => by omega)⟩
set_option maxHeartbeats 1600000 in
set_option maxRecDepth 100000 in
theorem spec_PutQuestion_calls (us : List Value) (x : GLink) (p : Int) (w : World) (hr : RdLW w (eLink x) us) (hz : sizL (eLink x) ≤ 1048576) (hi : I64 p) :
    Calls Try.prog 6 #[.agg us.toArray, .int .i64 p] w fun e w' => ∃ us', e = .returned (.tuple #[.agg us'.toArray, .int .i64 (putQuestion2 x p)]) ∧ RdLW w' (eLink (putQuestion1 x p)) us' ∧ Below w.heap.size w w' := by
  have hcon := spec_l10Copy_calls us x ((w.alloc (.cells us.toArray 30)).alloc (.cells #[.int .i64 0, .bool false, .slice none 0 0, .int .i64 0, .slice none 0 0, .int .i64 0, .slice none 0 0] 30)) (hr.below (((Below.refl _ _).alloc (Nat.le_refl _) _).alloc (by simp) _)) hz
  obtain ⟨v2, v4, v6, rfl, h2, h4, h6⟩ := rd_eLink hr
  have hzq := hz
  rw [siz_eLink] at hzq
  have HC := Lib.hid hcon
  clear hcon hr h2 h4 h6 hz
  obtain ⟨n, hn⟩ : ∃ n, n = succW x.Asked := ⟨_, rfl⟩
  have hw : IntKind.i64.wrap (x.Asked + 1) = n := hn.symm
  have HN := Lib.hid hn
  clear hn
  go_enter Try.func6, Try.ntmps6
  go_wp2_with fail
  refine HC.out.mono ?_
  rintro e w1 ⟨B2, d2, B4, d4, B6, d6, rfl, hc, hb1⟩
  have z1 : w.heap.size + 2 ≤ w1.heap.size := by have := hb1.size; simpa using this
  have K0 := Lib.hid (((Blk.new w 30 #[.int .i64 x.Peer, .bool x.Up, v2, .int .i64 x.Next, v4, .int .i64 x.Asked, v6]).alloc _).below hb1)
  have K1 : Hid (Blk w1 (w.heap.size + 1) 30 #[.int .i64 0, .bool false, .slice none 0 0, .int .i64 0, .slice none 0 0, .int .i64 0, .slice none 0 0]) := Lib.hid ((Blk.made (by simp)).below hb1)
  have HB1 := Lib.hid ((((Below.refl w.heap.size w).alloc (Nat.le_refl _) _).alloc (by simp) _).trans (hb1.mono (by simp only [size_alloc]; omega)))
  have HCL : Hid (CopL (w.heap.size + 2) w1 x B2 d2 B4 d4 B6 d6) := ⟨hc.r2.mono (by simp only [size_alloc]; omega), hc.r4.mono (by simp only [size_alloc]; omega), hc.r6.mono (by simp only [size_alloc]; omega), hc.d24, hc.d26, hc.d46⟩
  obtain ⟨k0, j0⟩ := K0.out.rules
  obtain ⟨k1, j1⟩ := K1.out.rules
  have l0 := K0.out.lt
  have l1 := K1.out.lt
  clear hc hb1
  go_wp2_with (at_builtin; go_loud (refine wpList_append_rd_at rfl _ _ 28 rfl (w.heap.size + 2) 41 _ _ 2 16 Try.underlying28 rfl rfl rfl rfl rfl (by omega) _ x.Questions.length _ rfl ((HCL.out.r4.alloc _).alloc _) vals_eQuestion [(⟨n, p⟩ : GQuestion)] (one_eQuestion _) (lenv_eQuestion _) _ _ rfl (rdW_one' vals_eQuestion (w := w1.alloc _) (⟨n, p⟩ : GQuestion) 41 (by simp)) (by simp; omega) (by omega) (by simp; omega) ?_))
  intro B5 d5 w2 o2 g2 a2
  have R4 := HCL.out.r4.lt
  have A5 : Hid (∀ k, (Value.slice B5 (x.Questions.length + 1) d5).ownBlock = some k → w.heap.size + 2 ≤ k ∧ k ≠ w1.heap.size ∧ (k < w1.heap.size → (Value.slice B4 x.Questions.length d4).ownBlock = some k)) := by
    intro k hk
    rcases a2 with a2 | a2
    · rw [← a2] at R4
      have := R4 k hk
      exact ⟨this.1, by omega, fun _ => by rw [← a2]; exact hk⟩
    · have hk' : (Value.slice B5 (x.Questions.length + 1) d5).ownBlock = some k := hk
      rw [show (Value.slice B5 (x.Questions.length + 1) d5).ownBlock = some _ from a2] at hk'
      simp at hk'
      exact ⟨by omega, by omega, fun h => by omega⟩
  clear a2
  have C2 : Chg (fun k => (Value.slice B4 x.Questions.length d4).ownBlock = some k) w1 w2 := (((Chg.refl _ w1).alloc _).alloc _).trans (grown_chg g2)
  have z2 : w1.heap.size < w2.heap.size := by have := g2.size; simp at this; omega
  have KO : Hid (Blk w2 w1.heap.size 30 #[.int .i64 x.Peer, .bool x.Up, .slice B2 x.Exports.length d2, .int .i64 x.Next, .slice B4 x.Questions.length d4, .int .i64 n, .slice B6 x.Answers.length d6]) := Lib.hid (((Blk.new w1 _ _).alloc _).chg (grown_chg g2) (fun h => by have := R4 _ h; omega))
  have K02 := Lib.hid (K0.out.chg C2 (fun h => by have := R4 _ h; omega))
  have K12 := Lib.hid (K1.out.chg C2 (fun h => by have := R4 _ h; omega))
  have HB2 := Lib.hid (below_chg HB1.out C2 HB1.out.size (fun k h => by have := R4 k h; omega))
  have Q2 := Lib.hid (ownsRow_keep HCL.out.r2 C2 (fun k h1 h2 => HCL.out.d24 k h1 h2))
  have Q6 := Lib.hid (ownsRow_keep HCL.out.r6 C2 (fun k h1 h2 => HCL.out.d46 k h2 h1))
  have Q4 : Hid (w2.ownsRow (w.heap.size + 2) 41 2 (.slice B5 (x.Questions.length + 1) d5) (x.Questions ++ [(⟨n, p⟩ : GQuestion)]).length ((x.Questions ++ [(⟨n, p⟩ : GQuestion)]).flatMap vsQuestion)) := by
    unfold Hid; rw [List.flatMap_append, List.length_append]; exact o2
  clear o2 g2 C2 R4 k0 j0 k1 j1 l0 l1
  obtain ⟨k0, j0⟩ := K02.out.rules
  obtain ⟨k1, j1⟩ := K12.out.rules
  obtain ⟨k2, j2⟩ := KO.out.rules
  have l0 := K02.out.lt
  have l1 := K12.out.lt
  go_wp2
  obtain ⟨ws, hws⟩ : ∃ ws, ws = w2.setCell ⟨w1.heap.size, 4, none⟩ (.slice B5 (x.Questions.length + 1) d5) := ⟨_, rfl⟩
  rw [← hws]
  have CS : Chg (fun k => k = w1.heap.size) w2 ws := by rw [hws]; exact (Chg.refl (· = w1.heap.size) _).setCell (p := ⟨w1.heap.size, 4, none⟩) (.inl rfl) _
  have KS : Hid (Blk ws w1.heap.size 30 #[.int .i64 x.Peer, .bool x.Up, .slice B2 x.Exports.length d2, .int .i64 x.Next, .slice B5 (x.Questions.length + 1) d5, .int .i64 n, .slice B6 x.Answers.length d6]) := by unfold Hid; rw [hws]; exact Blk.eq (KO.out.set_ 4 _) (by simp)
  have K1S := Lib.hid (K12.out.chg CS (by omega))
  have HBS := Lib.hid (below_chg HB2.out CS HB2.out.size (fun k h => by omega))
  have HCS := Lib.hid CS
  clear hws CS k0 j0 k1 j1 k2 j2 l0 l1
  obtain ⟨k1, j1⟩ := K1S.out.rules
  obtain ⟨k2, j2⟩ := KS.out.rules
  have l1 := K1S.out.lt
  have l2 := KS.out.lt
  have ne1 : ¬ w1.heap.size = w.heap.size + 1 := by omega
  have ne2 : ¬ w.heap.size + 1 = w1.heap.size := by omega
  go_region_held3 (fun wq => wq.cell? ⟨w1.heap.size, 0, none⟩ = some (.int .i64 x.Peer) ∧ wq.cell? ⟨w1.heap.size, 1, none⟩ = some (.bool x.Up) ∧ wq.cell? ⟨w1.heap.size, 2, none⟩ = some (.slice B2 x.Exports.length d2) ∧ wq.cell? ⟨w1.heap.size, 3, none⟩ = some (.int .i64 x.Next) ∧ wq.cell? ⟨w1.heap.size, 4, none⟩ = some (.slice B5 (x.Questions.length + 1) d5) ∧ wq.cell? ⟨w1.heap.size, 5, none⟩ = some (.int .i64 n) ∧ wq.cell? ⟨w1.heap.size, 6, none⟩ = some (.slice B6 x.Answers.length d6)) (go_keep) (fail)
  go_wp2
  refine post_cell2 (w0 := ws) (fun k => k = w.heap.size + 1) Try.results6 (w.heap.size + 1) #[.int .i64 x.Peer, .bool x.Up, .slice B2 x.Exports.length d2, .int .i64 x.Next, .slice B5 (x.Questions.length + 1) d5, .int .i64 n, .slice B6 x.Answers.length d6] _ _ rfl (Blk.eq ((((((((K1S.out.set_ 0 _).set_ 1 _).set_ 2 _).set_ 3 _).set_ 4 _).set_ 5 _).set_ 6 _).drew) (by simp)) Try.underlying30 rfl (by kernel_rfl) rfl rfl (((((((((Chg.refl (fun k => k = w.heap.size + 1) ws).setCell (p := ⟨w.heap.size + 1, 0, none⟩) (.inl rfl) _).setCell (p := ⟨w.heap.size + 1, 1, none⟩) (.inl rfl) _).setCell (p := ⟨w.heap.size + 1, 2, none⟩) (.inl rfl) _).setCell (p := ⟨w.heap.size + 1, 3, none⟩) (.inl rfl) _).setCell (p := ⟨w.heap.size + 1, 4, none⟩) (.inl rfl) _).setCell (p := ⟨w.heap.size + 1, 5, none⟩) (.inl rfl) _).setCell (p := ⟨w.heap.size + 1, 6, none⟩) (.inl rfl) _).drew) ?_
  intro W hW
  have hn := HN.out
  subst hn
  have L2 := HCL.out.r2.lt
  have L6 := HCL.out.r6.lt
  have P2 := ownsRow_keep (ownsRow_keep Q2.out HCS.out (fun k hk => by have := L2 k hk; omega)) hW (fun k hk => by have := L2 k hk; omega)
  have P6 := ownsRow_keep (ownsRow_keep Q6.out HCS.out (fun k hk => by have := L6 k hk; omega)) hW (fun k hk => by have := L6 k hk; omega)
  have P4 := ownsRow_keep (ownsRow_keep Q4.out HCS.out (fun k hk => by have := A5.out k hk; omega)) hW (fun k hk => by have := A5.out k hk; omega)
  have hl5 : (x.Questions ++ [(⟨succW x.Asked, p⟩ : GQuestion)]).length = x.Questions.length + 1 := by simp
  refine ⟨_, rfl, mkrd_eLink (x := putQuestion1 x p) (ownsRow_rdw (xs := x.Exports) vals_eExport P2 (by omega)) ?_ (ownsRow_rdw (xs := x.Answers) vals_eQuestion P6 (by omega)), below_chg HBS.out hW HBS.out.size (fun i hi => by omega)⟩
  exact ownsRow_rdw (xs := x.Questions ++ [(⟨succW x.Asked, p⟩ : GQuestion)]) vals_eQuestion P4 (by rw [hl5]; omega)

end Go.Proofs.Ytlpjbipgocgioaa
