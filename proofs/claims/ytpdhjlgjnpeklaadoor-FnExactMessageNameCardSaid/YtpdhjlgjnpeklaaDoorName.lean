/- The statement FnExactMessageName: for every kind the program's name of a kind of messages is the reference's; no condition; the table of names is tied to the program's text by the given tie. -/
import Derived.Test.YtpdhjlgjnpeklaaDoorCards
import Derived.Test.YtpdhjlgjnpeklaaDoorTie
import Derived.WalkKit
import Derived.ProofKit
import Derived.OpenShut
import Derived.LaidMore
import Derived.Deep.DeepHandedRow
import Derived.Lib.LaidTab
import Derived.RowKit3
import Derived.OpenVars
import Derived.Deep.RegionHeld
namespace Go.Proofs.YtpdhjlgjnpeklaaDoor
open Go.ChangeShapes Go.WideShapes Go.ChangeAt Go.RowKit
set_option linter.unusedVariables false
set_option linter.unusedSimpArgs false

theorem own : ownKnob Tryd.prog.godebug = none := by kernel_rfl
theorem gTab : Tryd.prog.globalNamed "loop.example/g00591/impl.messageNames" = some 0 := by kernel_rfl
theorem gTabType : (Tryd.prog.globals[0]?).map (·.type) = some 26 := by kernel_rfl
theorem cells26 : Tryd.prog.cellsOf 26 = 7 := by kernel_rfl
theorem cells9 : Tryd.prog.cellsOf 9 = 1 := by kernel_rfl
/-- the seven names, byte by byte -/
def names : List (List UInt8) := [[], [99, 97, 108, 108], [114, 101, 116, 117, 114, 110], [101, 99, 104, 111], [101, 99, 104, 111, 101, 100], [102, 105, 110, 105, 115, 104], [114, 101, 108, 101, 97, 115, 101]]
/-- what the row's list gives: the table's cells hold the seven names -/
theorem table {W : World} (h : laidMetH Tryd.prog Rows.fnExactMessageNameRow.laid W) (j : Nat) (l : List UInt8) (hl : names[j]? = some l) : W.cell? ⟨0, j, none⟩ = some (.string ⟨l.toArray⟩) := by
  have hj : j < 7 := (List.getElem?_eq_some_iff.1 hl).1
  rw [MakeChecks.laidMetH_plain _ _ _ (by kernel_rfl)] at h
  obtain ⟨ps, ⟨g0, t0, cs0, f0, p0, q0, hg0, ht0, hv0, hd0, hrest⟩, hrest2⟩ := h
  obtain rfl := Option.some.inj (gTab.symm.trans hg0)
  obtain rfl := Option.some.inj (gTabType.symm.trans ht0)
  obtain ⟨xs, m1, rfl, hx1, hlen, hn7, hel⟩ := DataW.trod_array Tryd.underlying26 hd0
  have hx := hel j hj
  rw [cells9] at hx
  obtain ⟨x, hxj⟩ : ∃ x, xs[j]? = some x := ⟨xs[j]'(by omega), List.getElem?_eq_getElem _⟩
  rw [hxj] at hx
  obtain ⟨s, e1, e2, _⟩ := DataW.trod_string Tryd.underlying9 hx
  have hcell := World.var?_cell hg0 hv0 j
  rw [hcell]
  have hat : cs0.toList[j]? = some (.string s) := by
    have h0 : ((cs0.toList.drop (j * 1)).take 1)[0]? = some (.string s) := by rw [e1]; rfl
    rw [List.getElem?_take_of_lt (by omega), List.getElem?_drop] at h0
    simpa using h0
  rw [Array.getElem?_toList] at hat
  rw [hat]
  simp only [Prod.mk.injEq, DataW.agg.injEq] at hx1
  have hm : (xs.map (·.1))[j]? = some (DataW.lit (.string s.data.toList)) := by rw [List.getElem?_map, hxj, e2]; rfl
  have hd : ((names.map fun l => (DataW.lit (.string l) : DataW Unit)))[j]? = some (DataW.lit (.string l)) := by rw [List.getElem?_map, hl]; rfl
  have hn : names.map (fun l => (DataW.lit (.string l) : DataW Unit)) = xs.map (·.1) := by
    have h := hx1.1
    unfold Rows.laid_loop_example_g00591_impl_messageNames at h
    injection h
  rw [hn, hm] at hd
  have hs : s.data.toList = l := by
    injection hd with hd; injection hd with hd; injection hd
  rw [← hs]
theorem spec_in_yes (a lo hi : Int) (w : World) (h1 : lo ≤ a) (h2 : a ≤ hi) : Calls Tryd.prog 6 #[.int .i64 a, .int .i64 lo, .int .i64 hi] w fun e w' => e = .returned (.bool true) ∧ w' = w := by
  go_enter Tryd.func6, Tryd.ntmps6
  go_wp2
  go_ret
  exact ⟨rfl, rfl⟩
theorem spec_in_no (a lo hi : Int) (w : World) (h : ¬ (lo ≤ a ∧ a ≤ hi)) : Calls Tryd.prog 6 #[.int .i64 a, .int .i64 lo, .int .i64 hi] w fun e w' => e = .returned (.bool false) ∧ w' = w := by
  by_cases h1 : lo ≤ a
  · have h2 : ¬ a ≤ hi := fun h2 => h ⟨h1, h2⟩
    clear h
    go_enter Tryd.func6, Tryd.ntmps6
    go_wp2
    go_ret
    exact ⟨rfl, rfl⟩
  · clear h
    go_enter Tryd.func6, Tryd.ntmps6
    go_wp2
    go_ret
    exact ⟨rfl, rfl⟩
theorem impl_in_yes (a lo hi : Int) (w : World) (h1 : lo ≤ a) (h2 : a ≤ hi) : Calls Tryd.prog 7 #[.int .i64 a, .int .i64 lo, .int .i64 hi] w fun e w' => e = .returned (.bool true) ∧ w' = w := by
  go_enter Tryd.func7, Tryd.ntmps7
  go_wp2
  go_ret
  exact ⟨rfl, rfl⟩
theorem impl_in_no (a lo hi : Int) (w : World) (h : ¬ (lo ≤ a ∧ a ≤ hi)) : Calls Tryd.prog 7 #[.int .i64 a, .int .i64 lo, .int .i64 hi] w fun e w' => e = .returned (.bool false) ∧ w' = w := by
  by_cases h1 : lo ≤ a
  · have h2 : ¬ a ≤ hi := fun h2 => h ⟨h1, h2⟩
    clear h
    go_enter Tryd.func7, Tryd.ntmps7
    go_wp2
    go_ret
    exact ⟨rfl, rfl⟩
  · clear h
    go_enter Tryd.func7, Tryd.ntmps7
    go_wp2
    go_ret
    exact ⟨rfl, rfl⟩
theorem spec_name1 (w : World) : Calls Tryd.prog 4 #[.int .i64 1] w fun e w' => e = .returned (.string ⟨#[99, 97, 108, 108]⟩) ∧ Below w.heap.size w w' := by
  go_enter Tryd.func4, Tryd.ntmps4
  go_wp2_with fail
  refine (spec_in_yes _ _ _ _ (by decide) (by decide)).mono ?_
  rintro e w1 ⟨rfl, rfl⟩
  go_wp2
  go_ret
  exact ⟨rfl, (Below.refl _ _).alloc (Nat.le_refl _) _⟩
theorem impl_name1 (w : World) (h : w.cell? ⟨0, 1, none⟩ = some (.string ⟨#[99, 97, 108, 108]⟩)) : Calls Tryd.prog 5 #[.int .i64 1] w fun e w' => e = .returned (.string ⟨#[99, 97, 108, 108]⟩) ∧ w' = w := by
  go_enter Tryd.func5, Tryd.ntmps5
  go_wp2_with fail
  refine (impl_in_yes _ _ _ _ (by decide) (by decide)).mono ?_
  rintro e w1 ⟨rfl, rfl⟩
  go_wp2
  go_ret
  exact ⟨rfl, rfl⟩
theorem walk1 (w : World) (h : w.cell? ⟨0, 1, none⟩ = some (.string ⟨#[99, 97, 108, 108]⟩)) : Calls Tryd.prog 3 #[.int .i64 1] w fun e w' => e = .returned (.bool true) ∧ Below w.heap.size w w' := by
  have hlt := World.block_lt_of_cell? w _ h
  go_enter Tryd.func3, Tryd.ntmps3
  go_wp2_with fail
  refine (spec_name1 _).mono ?_
  rintro e w1 ⟨rfl, hb1⟩
  have h1 := (hb1.cell (p := ⟨0, 1, none⟩) hlt).trans h
  go_wp2_with fail
  refine (impl_name1 _ h1).mono ?_
  rintro e w2 ⟨rfl, rfl⟩
  go_wp2
  go_ret
  exact ⟨rfl, hb1⟩
theorem spec_name2 (w : World) : Calls Tryd.prog 4 #[.int .i64 2] w fun e w' => e = .returned (.string ⟨#[114, 101, 116, 117, 114, 110]⟩) ∧ Below w.heap.size w w' := by
  go_enter Tryd.func4, Tryd.ntmps4
  go_wp2_with fail
  refine (spec_in_yes _ _ _ _ (by decide) (by decide)).mono ?_
  rintro e w1 ⟨rfl, rfl⟩
  go_wp2
  go_ret
  exact ⟨rfl, (Below.refl _ _).alloc (Nat.le_refl _) _⟩
theorem impl_name2 (w : World) (h : w.cell? ⟨0, 2, none⟩ = some (.string ⟨#[114, 101, 116, 117, 114, 110]⟩)) : Calls Tryd.prog 5 #[.int .i64 2] w fun e w' => e = .returned (.string ⟨#[114, 101, 116, 117, 114, 110]⟩) ∧ w' = w := by
  go_enter Tryd.func5, Tryd.ntmps5
  go_wp2_with fail
  refine (impl_in_yes _ _ _ _ (by decide) (by decide)).mono ?_
  rintro e w1 ⟨rfl, rfl⟩
  go_wp2
  go_ret
  exact ⟨rfl, rfl⟩
theorem walk2 (w : World) (h : w.cell? ⟨0, 2, none⟩ = some (.string ⟨#[114, 101, 116, 117, 114, 110]⟩)) : Calls Tryd.prog 3 #[.int .i64 2] w fun e w' => e = .returned (.bool true) ∧ Below w.heap.size w w' := by
  have hlt := World.block_lt_of_cell? w _ h
  go_enter Tryd.func3, Tryd.ntmps3
  go_wp2_with fail
  refine (spec_name2 _).mono ?_
  rintro e w1 ⟨rfl, hb1⟩
  have h1 := (hb1.cell (p := ⟨0, 2, none⟩) hlt).trans h
  go_wp2_with fail
  refine (impl_name2 _ h1).mono ?_
  rintro e w2 ⟨rfl, rfl⟩
  go_wp2
  go_ret
  exact ⟨rfl, hb1⟩
theorem spec_name3 (w : World) : Calls Tryd.prog 4 #[.int .i64 3] w fun e w' => e = .returned (.string ⟨#[101, 99, 104, 111]⟩) ∧ Below w.heap.size w w' := by
  go_enter Tryd.func4, Tryd.ntmps4
  go_wp2_with fail
  refine (spec_in_yes _ _ _ _ (by decide) (by decide)).mono ?_
  rintro e w1 ⟨rfl, rfl⟩
  go_wp2
  go_ret
  exact ⟨rfl, (Below.refl _ _).alloc (Nat.le_refl _) _⟩
theorem impl_name3 (w : World) (h : w.cell? ⟨0, 3, none⟩ = some (.string ⟨#[101, 99, 104, 111]⟩)) : Calls Tryd.prog 5 #[.int .i64 3] w fun e w' => e = .returned (.string ⟨#[101, 99, 104, 111]⟩) ∧ w' = w := by
  go_enter Tryd.func5, Tryd.ntmps5
  go_wp2_with fail
  refine (impl_in_yes _ _ _ _ (by decide) (by decide)).mono ?_
  rintro e w1 ⟨rfl, rfl⟩
  go_wp2
  go_ret
  exact ⟨rfl, rfl⟩
theorem walk3 (w : World) (h : w.cell? ⟨0, 3, none⟩ = some (.string ⟨#[101, 99, 104, 111]⟩)) : Calls Tryd.prog 3 #[.int .i64 3] w fun e w' => e = .returned (.bool true) ∧ Below w.heap.size w w' := by
  have hlt := World.block_lt_of_cell? w _ h
  go_enter Tryd.func3, Tryd.ntmps3
  go_wp2_with fail
  refine (spec_name3 _).mono ?_
  rintro e w1 ⟨rfl, hb1⟩
  have h1 := (hb1.cell (p := ⟨0, 3, none⟩) hlt).trans h
  go_wp2_with fail
  refine (impl_name3 _ h1).mono ?_
  rintro e w2 ⟨rfl, rfl⟩
  go_wp2
  go_ret
  exact ⟨rfl, hb1⟩
theorem spec_name4 (w : World) : Calls Tryd.prog 4 #[.int .i64 4] w fun e w' => e = .returned (.string ⟨#[101, 99, 104, 111, 101, 100]⟩) ∧ Below w.heap.size w w' := by
  go_enter Tryd.func4, Tryd.ntmps4
  go_wp2_with fail
  refine (spec_in_yes _ _ _ _ (by decide) (by decide)).mono ?_
  rintro e w1 ⟨rfl, rfl⟩
  go_wp2
  go_ret
  exact ⟨rfl, (Below.refl _ _).alloc (Nat.le_refl _) _⟩
theorem impl_name4 (w : World) (h : w.cell? ⟨0, 4, none⟩ = some (.string ⟨#[101, 99, 104, 111, 101, 100]⟩)) : Calls Tryd.prog 5 #[.int .i64 4] w fun e w' => e = .returned (.string ⟨#[101, 99, 104, 111, 101, 100]⟩) ∧ w' = w := by
  go_enter Tryd.func5, Tryd.ntmps5
  go_wp2_with fail
  refine (impl_in_yes _ _ _ _ (by decide) (by decide)).mono ?_
  rintro e w1 ⟨rfl, rfl⟩
  go_wp2
  go_ret
  exact ⟨rfl, rfl⟩
theorem walk4 (w : World) (h : w.cell? ⟨0, 4, none⟩ = some (.string ⟨#[101, 99, 104, 111, 101, 100]⟩)) : Calls Tryd.prog 3 #[.int .i64 4] w fun e w' => e = .returned (.bool true) ∧ Below w.heap.size w w' := by
  have hlt := World.block_lt_of_cell? w _ h
  go_enter Tryd.func3, Tryd.ntmps3
  go_wp2_with fail
  refine (spec_name4 _).mono ?_
  rintro e w1 ⟨rfl, hb1⟩
  have h1 := (hb1.cell (p := ⟨0, 4, none⟩) hlt).trans h
  go_wp2_with fail
  refine (impl_name4 _ h1).mono ?_
  rintro e w2 ⟨rfl, rfl⟩
  go_wp2
  go_ret
  exact ⟨rfl, hb1⟩
theorem spec_name5 (w : World) : Calls Tryd.prog 4 #[.int .i64 5] w fun e w' => e = .returned (.string ⟨#[102, 105, 110, 105, 115, 104]⟩) ∧ Below w.heap.size w w' := by
  go_enter Tryd.func4, Tryd.ntmps4
  go_wp2_with fail
  refine (spec_in_yes _ _ _ _ (by decide) (by decide)).mono ?_
  rintro e w1 ⟨rfl, rfl⟩
  go_wp2
  go_ret
  exact ⟨rfl, (Below.refl _ _).alloc (Nat.le_refl _) _⟩
theorem impl_name5 (w : World) (h : w.cell? ⟨0, 5, none⟩ = some (.string ⟨#[102, 105, 110, 105, 115, 104]⟩)) : Calls Tryd.prog 5 #[.int .i64 5] w fun e w' => e = .returned (.string ⟨#[102, 105, 110, 105, 115, 104]⟩) ∧ w' = w := by
  go_enter Tryd.func5, Tryd.ntmps5
  go_wp2_with fail
  refine (impl_in_yes _ _ _ _ (by decide) (by decide)).mono ?_
  rintro e w1 ⟨rfl, rfl⟩
  go_wp2
  go_ret
  exact ⟨rfl, rfl⟩
theorem walk5 (w : World) (h : w.cell? ⟨0, 5, none⟩ = some (.string ⟨#[102, 105, 110, 105, 115, 104]⟩)) : Calls Tryd.prog 3 #[.int .i64 5] w fun e w' => e = .returned (.bool true) ∧ Below w.heap.size w w' := by
  have hlt := World.block_lt_of_cell? w _ h
  go_enter Tryd.func3, Tryd.ntmps3
  go_wp2_with fail
  refine (spec_name5 _).mono ?_
  rintro e w1 ⟨rfl, hb1⟩
  have h1 := (hb1.cell (p := ⟨0, 5, none⟩) hlt).trans h
  go_wp2_with fail
  refine (impl_name5 _ h1).mono ?_
  rintro e w2 ⟨rfl, rfl⟩
  go_wp2
  go_ret
  exact ⟨rfl, hb1⟩
theorem spec_name6 (w : World) : Calls Tryd.prog 4 #[.int .i64 6] w fun e w' => e = .returned (.string ⟨#[114, 101, 108, 101, 97, 115, 101]⟩) ∧ Below w.heap.size w w' := by
  go_enter Tryd.func4, Tryd.ntmps4
  go_wp2_with fail
  refine (spec_in_yes _ _ _ _ (by decide) (by decide)).mono ?_
  rintro e w1 ⟨rfl, rfl⟩
  go_wp2
  go_ret
  exact ⟨rfl, (Below.refl _ _).alloc (Nat.le_refl _) _⟩
theorem impl_name6 (w : World) (h : w.cell? ⟨0, 6, none⟩ = some (.string ⟨#[114, 101, 108, 101, 97, 115, 101]⟩)) : Calls Tryd.prog 5 #[.int .i64 6] w fun e w' => e = .returned (.string ⟨#[114, 101, 108, 101, 97, 115, 101]⟩) ∧ w' = w := by
  go_enter Tryd.func5, Tryd.ntmps5
  go_wp2_with fail
  refine (impl_in_yes _ _ _ _ (by decide) (by decide)).mono ?_
  rintro e w1 ⟨rfl, rfl⟩
  go_wp2
  go_ret
  exact ⟨rfl, rfl⟩
theorem walk6 (w : World) (h : w.cell? ⟨0, 6, none⟩ = some (.string ⟨#[114, 101, 108, 101, 97, 115, 101]⟩)) : Calls Tryd.prog 3 #[.int .i64 6] w fun e w' => e = .returned (.bool true) ∧ Below w.heap.size w w' := by
  have hlt := World.block_lt_of_cell? w _ h
  go_enter Tryd.func3, Tryd.ntmps3
  go_wp2_with fail
  refine (spec_name6 _).mono ?_
  rintro e w1 ⟨rfl, hb1⟩
  have h1 := (hb1.cell (p := ⟨0, 6, none⟩) hlt).trans h
  go_wp2_with fail
  refine (impl_name6 _ h1).mono ?_
  rintro e w2 ⟨rfl, rfl⟩
  go_wp2
  go_ret
  exact ⟨rfl, hb1⟩
theorem walk_no (a : Int) (w : World) (h : ¬ (1 ≤ a ∧ a ≤ 6)) : Calls Tryd.prog 3 #[.int .i64 a] w fun e w' => e = .returned (.bool true) ∧ Below w.heap.size w w' := by
  have hs : Calls Tryd.prog 4 #[.int .i64 a] w fun e w' => e = .returned (.string ⟨#[]⟩) ∧ w' = w := by
    go_enter Tryd.func4, Tryd.ntmps4
    go_wp2_with fail
    refine (spec_in_no _ _ _ _ h).mono ?_
    rintro e w1 ⟨rfl, rfl⟩
    go_wp2
    go_ret
    exact ⟨rfl, rfl⟩
  have hi : Calls Tryd.prog 5 #[.int .i64 a] w fun e w' => e = .returned (.string ⟨#[]⟩) ∧ w' = w := by
    go_enter Tryd.func5, Tryd.ntmps5
    go_wp2_with fail
    refine (impl_in_no _ _ _ _ h).mono ?_
    rintro e w1 ⟨rfl, rfl⟩
    go_wp2
    go_ret
    exact ⟨rfl, rfl⟩
  clear h
  go_enter Tryd.func3, Tryd.ntmps3
  go_wp2_with fail
  refine hs.mono ?_
  rintro e w1 ⟨rfl, rfl⟩
  go_wp2_with fail
  refine hi.mono ?_
  rintro e w2 ⟨rfl, rfl⟩
  go_wp2
  go_ret
  exact ⟨rfl, Below.refl _ _⟩
theorem walk (a : Int) (w : World) (h : laidMetH Tryd.prog Rows.fnExactMessageNameRow.laid w) : Calls Tryd.prog 3 #[.int .i64 a] w fun e w' => e = .returned (.bool true) ∧ Below w.heap.size w w' := by
  by_cases hin : 1 ≤ a ∧ a ≤ 6
  · have hk : a = 1 ∨ a = 2 ∨ a = 3 ∨ a = 4 ∨ a = 5 ∨ a = 6 := by omega
    rcases hk with rfl | rfl | rfl | rfl | rfl | rfl
    · exact walk1 w (table h 1 _ rfl)
    · exact walk2 w (table h 2 _ rfl)
    · exact walk3 w (table h 3 _ rfl)
    · exact walk4 w (table h 4 _ rfl)
    · exact walk5 w (table h 5 _ rfl)
    · exact walk6 w (table h 6 _ rfl)
  · exact walk_no a w hin
section
variable {H : Type} {enc : TypeId × Value → H} {P : Program}
theorem post_of_below {f : Func} {s : ChangeSpec} {apart fresh handsOn again : Bool} {W W' : World} {args : Array Value} {v : Value} {ds gs : List (DataW H)} {before pa pv : List MemPlace}
    (hW : DataW.Whole enc P f.params.toList s.vars apart W args.toList ds gs before)
    (hres : ∀ (b : Nat) (sp : Nat → Bool) (hd : Bool), DataW.TrodAll enc P W' b sp hd f.resultTypes.toList (v.resultList f.resultTypes.size) (s.fn H (ds ++ gs)).results [])
    (hargs : ∀ sp : Nat → Bool, (∀ p ∈ before, sp p.block = true) → DataW.TrodAll enc P W' 0 sp true f.params.toList args.toList (s.fn H (ds ++ gs)).args pa)
    (hvars : ∀ sp : Nat → Bool, (∀ p ∈ before, sp p.block = true) → DataW.TrodVars enc P W' sp s.vars (s.fn H (ds ++ gs)).vars pv)
    (hps : before = pa ++ pv) (hb : Below W.heap.size W W')
    (hok : ∀ (j : Nat) (t : TypeId) (r : Value), f.resultTypes[j]? = some t → (v.resultList f.resultTypes.size)[j]? = some r → Value.okWide P W' .any 0 t r) :
    s.post enc P f apart fresh handsOn again W args v W' := by
  have hlt : ∀ p ∈ before, p.block < W.heap.size := fun p hp => hW.lt p hp
  have hold : ∀ p ∈ before, (fun b => decide (b < W.heap.size)) p.block = true := fun p hp => by simpa using hlt p hp
  refine ⟨ds, gs, before, [], pa, pv, hW, hres _ _ _, hargs _ hold, hvars _ hold, World.keptBut_mono (fun p hp => ⟨hp, ?_⟩) (hb.frame (· ∈ before)), fun _ => ?_⟩
  · rw [hps, List.mem_append] at hp
    exact Or.inr hp
  · obtain ⟨_, _, _, _, _, hz, hn⟩ := hW
    refine ⟨hok, _, _, ([] ++ pa) ++ pv, ⟨[] ++ pa, pv, trodAll_append (hargs _ (fun _ _ => rfl)) (hres _ _ _), hvars _ (fun _ _ => rfl), rfl, ?_, ?_⟩, ?_⟩
    · intro b off hp
      have hin : MemPlace.cell b off ∈ before := by rw [hps]; simpa using hp
      rw [hb.frozen (hlt _ hin)]
      exact hz b off hin
    · intro ha
      have := hn ha
      rw [hps] at this
      simpa using this
    · intro p hp _
      rw [hps]
      simpa using hp
end
/-- what the walks give, for every argument and every world that holds the table -/
theorem contract (H : Type) (enc : TypeId × Value → H) (W : World) (base : Nat) (args : Array Value) (ds gs : List (DataW H)) (before : List MemPlace)
    (hval : ∀ (j : Nat) t v, Tryd.f3.params[j]? = some t → args[j]? = some v → Value.okWide Tryd.prog W .any base t v)
    (hW : DataW.Whole enc Tryd.prog Tryd.f3.params.toList Rows.fnExactMessageNameSpec.vars false W args.toList ds gs before) (hL : laidMetH Tryd.prog Rows.fnExactMessageNameRow.laid W) :
    Calls Tryd.prog 3 args W fun e W' => ∃ v, e = .returned v ∧ Rows.fnExactMessageNameSpec.post enc Tryd.prog Tryd.f3 false true false false W args v W' := by
  have hW' := hW
  obtain ⟨p, q, hA0, hV, rfl, hfz, hnd⟩ := hW
  have hA : DataW.TrodAll enc Tryd.prog W 0 (fun _ => true) true Tryd.f3.params.toList args.toList ds p := hA0
  rw [Tryd.params3] at hA hval
  obtain ⟨v0, vs0, d0, ds0, p0, q0, hargs, rfl, rfl, h0, r0⟩ := trodAll_cons hA
  obtain ⟨rfl, rfl, rfl⟩ := trodAll_nil r0
  obtain rfl : args = #[v0] := by cases args; simp_all
  obtain ⟨g, t, cs, fuel, d, pv, rfl, hg, ht, hv, htr, rfl⟩ := trodVars_one hV
  obtain ⟨a0, rfl, rfl, rfl, w0⟩ := open_int Tryd.underlying3 (hval 0 3 v0 rfl rfl) h0
  clear hA0
  have hlt : ∀ x ∈ MemPlace.row ⟨g, 0, none⟩ cs.size ++ pv, x.block < W.heap.size := fun x hx => hW'.lt x (by simp [hx])
  refine (walk a0 W hL).mono fun e W' ⟨he, hb⟩ => ?_
  subst he
  have hgl : g < W.heap.size := by
    unfold World.var? at hv
    rw [hg] at hv
    simp only [Option.bind_some] at hv
    cases hh : W.heap[g]? with
    | none => rw [hh] at hv; cases hv
    | some o => exact (Array.getElem?_eq_some_iff.1 hh).1
  have hv' : W'.var? Tryd.prog "loop.example/g00591/impl.messageNames" = some cs := by
    unfold World.var? at hv ⊢
    rw [hg] at hv ⊢
    simp only [Option.bind_some] at hv ⊢
    rw [hb.block g hgl]; exact hv
  obtain rfl := Option.some.inj (gTab.symm.trans hg)
  obtain rfl := Option.some.inj (gTabType.symm.trans ht)
  have vars' : ∀ sp : Nat → Bool, (∀ x ∈ [] ++ [] ++ (MemPlace.row ⟨0, 0, none⟩ cs.size ++ pv), sp x.block = true) → DataW.TrodVars enc Tryd.prog W' sp ["loop.example/g00591/impl.messageNames"] [d] (MemPlace.row ⟨0, 0, none⟩ cs.size ++ pv) := fun sp hsp =>
    trodVars_mk1 gTab gTabType hv' (DataW.trod_stays (kids_book (by kernel_rfl) (by kernel_rfl)) (book_sized (by kernel_rfl)) (fun h => by cases h) ⟨of_decide_eq_true (by kernel_rfl), book_self 26⟩ htr (fun x hx => hb.same (hlt x (by simp [hx]))) (fun x hx => hsp x (by simp [hx])))
  exact ⟨_, rfl, post_of_below (pa := []) (pv := MemPlace.row ⟨0, 0, none⟩ cs.size ++ pv) hW' (fun _ _ _ => trodAll_cons_mk (shut_bool Tryd.underlying4 _) trodAll_mk0) (fun sp _ => trodAll_cons_mk (shut_int Tryd.underlying3 w0) trodAll_mk0) (fun sp hsp => vars' sp hsp) (by simp) hb (ok_one (by kernel_rfl) rfl (okWide_bool_mk Tryd.underlying4 _))⟩
/-- a world for the witness: the settled one, the table holding what its initialiser lays -/
noncomputable def laidWorld (os : Os) : World :=
  { World.holding Tryd.prog os ⟨#[], #[], []⟩ with heap := (World.holding Tryd.prog os ⟨#[], #[], []⟩).heap.modify 0 fun
      | .cells _ t frozen => .cells #[.string ⟨#[]⟩, .string ⟨#[99, 97, 108, 108]⟩, .string ⟨#[114, 101, 116, 117, 114, 110]⟩, .string ⟨#[101, 99, 104, 111]⟩, .string ⟨#[101, 99, 104, 111, 101, 100]⟩, .string ⟨#[102, 105, 110, 105, 115, 104]⟩, .string ⟨#[114, 101, 108, 101, 97, 115, 101]⟩] t frozen
      | o => o }
theorem laid_met (os : Os) : laidMet Tryd.prog Rows.fnExactMessageNameRow.laid ((laidWorld os).forCall (fun _ _ => 0) ⟨#[], #[.int .i64 0], []⟩).memory :=
  laidMet_of_run' 8 (by kernel_rfl) (by kernel_rfl)
theorem reads (os : Os) {H : Type} (enc : TypeId × Value → H) : ∃ places, DataW.whole enc Tryd.prog ((laidWorld os).forCall (fun _ _ => 0) ⟨#[], #[.int .i64 0], []⟩).memory Tryd.f3.params.toList Rows.fnExactMessageNameSpec.vars false #[Value.int .i64 0].toList 8 = some ([.lit (.int .i64 0)], [Rows.laid_loop_example_g00591_impl_messageNames], places) :=
  ⟨MemPlace.row ⟨0, 0, none⟩ 7, by kernel_rfl⟩
set_option maxRecDepth 100000 in
theorem lifted (os : Os) (started : os.Started) (H : Type) (enc : TypeId × Value → H) (F : Stop.Interp) :
    ReturnsInHanded {} Tryd.checked os 3 .any ((OpenSpec.ofChange Rows.fnExactMessageNameSpec).preRow enc Tryd.prog Tryd.f3 Rows.fnExactMessageNameRow.domain false Rows.fnExactMessageNameRow.laid) (((OpenSpec.ofChange Rows.fnExactMessageNameSpec).at F).post enc Tryd.prog Tryd.f3 false true false false) := by
  obtain ⟨places, hx⟩ := reads os enc
  refine returnsInHanded_of_row (C := Tryd.checked) (s := OpenSpec.ofChange Rows.fnExactMessageNameSpec) own started (by kernel_rfl) Tryd.func3
    (witness_row_at (enc := enc) (C := Tryd.checked) false (laidWorld os) #[.int .i64 0] rfl (by kernel_rfl) (by kernel_rfl) (by kernel_rfl)
      (OpenSpec.preRow_of_cond 8 hx (by kernel_rfl) (fun k hk => by cases hk) (by kernel_rfl) (laid_met os))) ?_
  intro W base args ds gs before hval hW _ _ _ hL _ _
  exact contract H enc W base args ds gs before hval hW hL
theorem said : Rows.FnExactMessageNameSaid :=
  OpenClaim.holds_of_cond 3 Tryd.f3 rfl rfl rfl rfl rfl rfl rfl ⟨rfl, rfl, rfl, rfl, rfl⟩ rfl rfl rfl rfl rfl (by kernel_rfl) Tryd.func3 (by kernel_rfl)
    (of_decide_eq_true (by kernel_rfl)) (by unfold Func.isWrapper; first | (rw [if_pos (by decide +kernel)]; kernel_rfl) | (rw [if_neg (by decide +kernel)]; exact ⟨rfl, rfl⟩))
    (fun os started H enc _ F => by rw [OpenClaim.pre_eq_preRow]; exact lifted os started H enc F)
theorem plain (f : FuncId) (fn : Func) (hf : Tryd.pinned.checked.prog.funcNamed "loop.example/g00591/laws.FnExactMessageName" = some f) (hfn : Tryd.pinned.checked.prog.funcs[f]? = some fn) :
    false = Tryd.pinned.checked.prog.looks [] ∧ ∀ (j : Nat) t, fn.params[j]? = some t → Tryd.pinned.checked.prog.wantsStandIn t = false := by
  obtain rfl : f = 3 := Option.some.inj ((show Tryd.prog.funcNamed "loop.example/g00591/laws.FnExactMessageName" = some 3 by kernel_rfl).symm.trans hf) |>.symm
  obtain rfl : fn = Tryd.f3 := (Option.some.inj (Tryd.func3.symm.trans hfn)).symm
  refine ⟨by kernel_rfl, fun j t ht => ?_⟩
  rw [Tryd.params3] at ht
  obtain rfl : t = 3 := by simpa using Array.mem_of_getElem? ht
  exact (show Tryd.prog.wantsStandIn 3 = false by kernel_rfl)
/-- the card -/
theorem FnExactMessageName_card : Rows.FnExactMessageNameCardSaid :=
  Claim7.holds_tied_plain_at .later [] _ _ _ _ said (fun _ h => by cases h) (by kernel_rfl) (fun _ h => by cases h) fnExactMessageName_row_tie rfl ⟨rfl, rfl⟩ (by kernel_rfl) rfl plain (by kernel_rfl)
end Go.Proofs.YtpdhjlgjnpeklaaDoor
