import Derived.Test.YtiohoeafdaihpaaProg
import Derived.Test.YtiohoeafdaihpaaTypes
import Derived.StillTailTactics
import Derived.Deep.CutBlock
import Derived.Deep.CutRange
import Derived.Laws.OwnMore
import Derived.Deep.AppendLies
import Derived.Deep.RegionWith
import Derived.Deep.RegionHeld3
import Derived.Laws.IdiomStrings
import Derived.Test.YtiohoeafdaihpaaAppend
import Derived.Laws.StructEq
import Derived.Lib.SliceRun
import Derived.Shelf.RegionOpenPlain
import Derived.Test.YtiohoeafdaihpaaTxt8b
namespace Go.Proofs.Ytiohoeafdaihpaa
open Go.RowKit
set_option linter.unusedVariables false
set_option linter.unusedSimpArgs false

/-- a line behind a script's name -/
inductive Ln where
  | meth (nm : ByteArray)
  | ins (y : GInstr)
def addL (ms : List GMethod) : Ln → List GMethod
  | .meth nm => ms ++ [⟨nm, []⟩]
  | .ins y => match ms.getLast? with
    | some last => ms.dropLast ++ [⟨last.Name, last.Code ++ [y]⟩]
    | none => []
def addAll (ls : List Ln) : List GMethod := ls.foldl addL []
theorem addAll_step {ls : List Ln} {j : Nat} {l : Ln} (h : ls[j]? = some l) : addAll (ls.take (j + 1)) = addL (addAll (ls.take j)) l := by
  unfold addAll
  rw [List.take_add_one, h, List.foldl_append]
  rfl
def lineOk (s : ByteArray) : Ln → Prop
  | .meth nm => 7 < s.size ∧ s.size ≤ 4000 ∧ s.extract 0 7 = kwM ∧ s.extract 7 s.size = nm
  | .ins y => LineI s y ∧ s.size ≤ 4000 ∧ ((s.extract 0 7).toList == ([115, 99, 114, 105, 112, 116, 32] : List UInt8)) = false ∧ ((s.extract 0 7).toList == ([109, 101, 116, 104, 111, 100, 32] : List UInt8)) = false
/-- a text is that of a library of one script -/
structure LibT (t nm : ByteArray) (ls : List Ln) : Prop where
  size : t.size ≤ 4000
  len : (splitB t 10).length = ls.length + 2
  lns : ls.length ≤ 100
  head : ∃ s, (splitB t 10)[0]? = some s ∧ 7 < s.size ∧ s.size ≤ 4000 ∧ s.extract 0 7 = kwS ∧ s.extract 7 s.size = nm
  lines : ∀ (j : Nat) l, ls[j]? = some l → ∃ s, (splitB t 10)[j + 1]? = some s ∧ lineOk s l
  met : ∀ (j : Nat) y, ls[j]? = some (.ins y) → addAll (ls.take j) ≠ []
  bnd : ∀ (j : Nat), j ≤ ls.length → (addAll (ls.take j)).length ≤ 6 ∧ ∀ m, m ∈ addAll (ls.take j) → m.Code.length ≤ 13
  good : GoodS ⟨nm, addAll ls⟩
  lib : libraryB [⟨nm, addAll ls⟩] = true
  txt : fmtS ⟨nm, addAll ls⟩ = t
theorem rdL_flatS {α : Type} {en : α → List Lf} {S : Nat → Prop} {w : World} : ∀ {xs : List α} {css : List (List Value)}, css.length = xs.length → (∀ (j : Nat) y, xs[j]? = some y → ∃ cs, css[j]? = some cs ∧ RdL S w (en y) cs) → RdL S w (xs.flatMap en) (css.flatMap id)
  | [], [], _, _ => RdL_nil.2 rfl
  | [], _ :: _, h, _ => by simp at h
  | _ :: _, [], h, _ => by simp at h
  | x :: xs, c :: css, hl, h => by
    obtain ⟨cs, hc, hr⟩ := h 0 x rfl
    injection hc with hc
    subst hc
    rw [List.flatMap_cons, List.flatMap_cons]
    exact RdL.append _ _ _ _ hr (rdL_flatS (by simpa using hl) (fun j y hy => h (j + 1) y (by simpa using hy)))
theorem rd_own_cellsS {S : Nat → Prop} {w : World} {base : Nat} {e : TypeId} {sz n : Nat} {A : Option Addr} {c : Nat} {us : List Value} {ls : List Lf} (h : w.ownsRow base e sz (.slice A n c) n us) (hn : n ≤ 140737488355328) (hS : ∀ k, base ≤ k → k < w.heap.size → S k) (hr : RdL S w ls us) : Rd S w (.s n ls) (.slice A n c) := by
  have h63 : maxLen = 9223372036854775807 := by decide
  rw [Rd]
  rcases h.2 with ⟨h0, h1⟩ | ⟨g, cap, cur, hv, hb, hg, hnc, hc, hcs, ht⟩
  · injection h0 with h0 h2 h3
    subst h2 h3
    exact ⟨_, _, rfl, ⟨Nat.le_refl _, by omega, by omega⟩, .inl rfl⟩
  · injection hv with h0 h2 h3
    subst h0 h3
    refine ⟨_, _, rfl, ⟨hnc, by omega, hn⟩, .inr ⟨_, us, rfl, hS _ hb ?_, fun k u hk => ?_, hr⟩⟩
    · rcases Nat.lt_or_ge g w.heap.size with h1 | h1
      · exact h1
      · rw [Array.getElem?_eq_none h1] at hg; cases hg
    · rw [add_zero_own, cell_of_row w g k cur e (0, 0) hg]
      rw [← ht] at hk
      rw [List.getElem?_take] at hk
      split at hk
      · simpa using hk
      · cases hk
theorem LSt.rdS {B : Nat} {w : World} {g0 cap : Nat} {nm : ByteArray} {ms : List GMethod} (h : LSt B w g0 cap nm ms) (hl : ms.length ≤ 100) (hm : ∀ m, m ∈ ms → m.Code.length ≤ 1000) :
    Rd (fun k => B ≤ k ∧ k < w.heap.size) w (.s 1 (eScript ⟨nm, ms⟩)) (.slice (some ⟨g0, 0, none⟩) 1 cap) := by
  obtain ⟨cur, A1, c1, h1, h2, h3, h4, h5, h6⟩ := h
  have hms : Rd (fun k => B ≤ k ∧ k < w.heap.size) w (.s ms.length (ms.flatMap eMethod)) (.slice A1 ms.length c1) := by
    rcases h6 with ⟨rfl, rfl, rfl⟩ | ⟨init, last, r, css, Al, cl, rfl, rfl, q3, q4, q5, q6, q7, q8⟩
    · rw [Rd]; exact ⟨_, _, rfl, ⟨Nat.le_refl _, by decide, by decide⟩, .inl rfl⟩
    · have hlen : (init ++ [last]).length = init.length + 1 := by rw [List.length_append]; rfl
      rw [hlen] at hl ⊢
      refine rd_own_cellsS q5 (by omega) (fun k a b => ⟨a, b⟩) ?_
      rw [List.flatMap_append]
      refine RdL.append _ _ _ _ (rdL_flatS q4 (fun j y hy => ?_)) ?_
      · obtain ⟨cs, hc, hr⟩ := q8 j y hy
        exact ⟨cs, hc, RdL.mono (fun k hk => ⟨hk.1, hk.2.1⟩) _ _ hr⟩
      · rw [List.flatMap_cons, List.flatMap_nil, List.append_nil]
        exact RdL.mono (fun k hk => ⟨hk.1, hk.2.1⟩) _ _ (code_rdS q6 (by have := hm last (by simp); omega))
  rw [Rd]
  refine ⟨_, _, rfl, h2, .inr ⟨⟨g0, 0, none⟩, [.string nm, .slice A1 ms.length c1], rfl, ⟨h1, h3.lt⟩, fun k x hk => ?_, RdL_cons.2 ⟨_, _, rfl, Rd_v.2 rfl, RdL_cons.2 ⟨_, _, rfl, hms, RdL_nil.2 rfl⟩⟩⟩⟩
  rw [add_zero_own, h3.cell]
  match k, hk with
  | 0, hk => injection hk with hk; subst hk; exact h4
  | 1, hk => injection hk with hk; subst hk; exact h5
  | k + 2, hk => simp at hk
set_option maxHeartbeats 12800000 in
set_option maxRecDepth 100000 in
theorem spec_ParseLibrary_calls (t nm : ByteArray) (ls : List Ln) (hT : LibT t nm ls) (w : World) :
    Calls Try.prog 90 #[.string t] w fun e w' => ∃ g0 cap, e = .returned (.tuple #[.slice (some ⟨g0, 0, none⟩) 1 cap, .bool true]) ∧ Rd (fun k => w.heap.size ≤ k ∧ k < w'.heap.size) w' (.s 1 (eScript ⟨nm, addAll ls⟩)) (.slice (some ⟨g0, 0, none⟩) 1 cap) ∧ Below w.heap.size w w' := by
  have HT := Lib.hid hT
  have hts := hT.size
  have hll := hT.lns
  have hln := hT.len
  clear hT
  go_enter Try.func90, Try.ntmps90
  have hts2 : ¬ (4000 : Int) < t.size := by omega
  go_wp2_with fail
  refine (spec_l7Split_calls t 10 _ (by omega)).mono ?_
  rintro e w1 ⟨A, c1, rfl, hr, hb_⟩
  rw [hln] at hr ⊢
  have HR := Lib.hid hr
  have HB0 := Lib.hid hb_
  clear hr hb_
  go_wp2
  go_loopw [5, 6] (fun a b wr => ∃ i : Nat, i ≤ ls.length + 1 ∧ b = .int .i64 i ∧ Hid (Below w1.heap.size w1 wr) ∧ ((i = 0 ∧ a = .slice (some ⟨w1.heap.size, 0, none⟩) 0 0 ∧ Hid (wr.ownsRow w1.heap.size 51 2 (.slice (some ⟨w1.heap.size, 0, none⟩) 0 0) 0 [])) ∨ (∃ g0 cap : Nat, 1 ≤ i ∧ a = .slice (some ⟨g0, 0, none⟩) 1 cap ∧ Hid (LSt w1.heap.size wr g0 cap nm (addAll (ls.take (i - 1))))))) (fun a b wr => ls.length + 1 - (intOf b).toNat)
  case atStart => exact ⟨0, by omega, rfl, (Below.refl _ _).alloc (Nat.le_refl _) _, .inl ⟨rfl, rfl, ownsRow_made' rfl (Nat.le_refl _)⟩⟩
  case round =>
    obtain ⟨i, hi, rfl, HB, hst⟩ := hrel
    have zr := HB.out.size
    by_cases hlt : i < ls.length + 1
    · rcases hst with ⟨rfl, rfl, HO⟩ | ⟨g0, cap, hi1, rfl, HL⟩
      · obtain ⟨s, hs, h1, h2, h3, h4⟩ := HT.out.head
        obtain ⟨ad, rfl, hab, q0⟩ := row_eStr (xs := splitB t 10) (c := c1) (by rw [hln]; exact HR.out.below HB.out) hs
        have hz0 : ad.add 0 = ad := Addr.add_zero' ad
        rw [hz0] at q0
        have HP := Lib.hid (spec_l7Add_script w1.heap.size w1.heap.size 0 0 s nm wr rfl HO.out zr h1 h2 h3 h4)
        clear hs h1 h2 h3 h4
        go_wp2_with fail
        refine HP.out.mono ?_
        rintro e w2 ⟨g0, cap, rfl, hl, hb⟩
        have HL2 := Lib.hid hl
        have HB2 := Lib.hid (HB.out.trans hb)
        clear hl hb HP
        go_wp2
        go_roundw
        case rel => exact ⟨1, by omega, by go_num, HB2, .inr ⟨g0, cap, by omega, rfl, HL2⟩⟩
        case measure => (simp [intOf] <;> omega)
      · obtain ⟨j, rfl⟩ : ∃ j, i = j + 1 := ⟨i - 1, by omega⟩
        have hj : j < ls.length := by omega
        obtain ⟨l, hl⟩ : ∃ l, ls[j]? = some l := ⟨_, List.getElem?_eq_getElem hj⟩
        obtain ⟨s, hs, hok⟩ := HT.out.lines j l hl
        obtain ⟨ad, rfl, hab, q0⟩ := row_eStr (xs := splitB t 10) (c := c1) (by rw [hln]; exact HR.out.below HB.out) hs
        have q0b : wr.cell? ⟨ad.block, ad.off + (j + 1), none⟩ = some (.string s) := by rw [← q0]; unfold Addr.add; rw [if_neg (by omega)]
        clear q0
        have hbd := HT.out.bnd j (by omega)
        rw [show j + 1 - 1 = j from by omega] at HL
        have HP : Hid (Calls Try.prog 106 #[.slice (some ⟨g0, 0, none⟩) 1 cap, .string s] wr fun e w' => e = .returned (.tuple #[.slice (some ⟨g0, 0, none⟩) 1 cap, .bool true]) ∧ LSt w1.heap.size w' g0 cap nm (addAll (ls.take (j + 1))) ∧ Below w1.heap.size wr w') := by
          rw [addAll_step hl]
          cases l with
          | meth nm2 =>
            obtain ⟨h1, h2, h3, h4⟩ := hok
            exact spec_l7Add_method w1.heap.size g0 cap s nm nm2 _ wr HL.out (fun m hm => by have := hbd.2 m hm; omega) (by omega) zr h1 h2 h3 h4
          | ins y =>
            obtain ⟨h1, h2, h3, h4⟩ := hok
            have hne := HT.out.met j y hl
            obtain ⟨init, last, he⟩ : ∃ init last, addAll (ls.take j) = init ++ [last] := ⟨_, _, (List.dropLast_concat_getLast hne).symm⟩
            have hHL := HL.out
            rw [he] at hHL hbd ⊢
            have hlen : (init ++ [last]).length = init.length + 1 := by rw [List.length_append]; rfl
            have hal : addL (init ++ [last]) (.ins y) = init ++ [⟨last.Name, last.Code ++ [y]⟩] := by
              unfold addL; rw [List.getLast?_append]; simp
            rw [hal]
            have hb1 := hbd.1
            have hb2 := hbd.2 last (by simp)
            by_cases h7 : (7 : Int) < s.size
            · exact spec_l7Add_instrL w1.heap.size g0 cap s nm init last y wr hHL h1 (by omega) (by omega) zr h2 h7 h3 h4
            · exact spec_l7Add_instrS w1.heap.size g0 cap s nm init last y wr hHL h1 (by omega) (by omega) zr h2 h7 h3 h4
        clear hs hok hl hbd hi1
        have hjl : (j : Int) + 1 < (ls.length : Int) + 1 := by omega
        go_wp2_with fail
        refine HP.out.mono ?_
        rintro e w2 ⟨rfl, hl2, hb⟩
        have HL2 := Lib.hid hl2
        have HB2 := Lib.hid (HB.out.trans hb)
        clear hl2 hb HP
        go_wp2
        go_roundw
        case rel => exact ⟨j + 1 + 1, by omega, by go_num, HB2, .inr ⟨g0, cap, by omega, rfl, by rw [show j + 1 + 1 - 1 = j + 1 from by omega]; exact HL2⟩⟩
        case measure => (simp [intOf] <;> omega)
    · rcases hst with ⟨rfl, _, _⟩ | ⟨g0, cap, hi1, rfl, HL⟩
      · omega
      · have hie : i = ls.length + 1 := by omega
        subst hie
        have hbd := HT.out.bnd ls.length (Nat.le_refl _)
        rw [show ls.length + 1 - 1 = ls.length from by omega, List.take_length] at HL
        rw [List.take_length] at hbd
        have hrd := HL.out.rd (by omega) (fun m hm => by have := hbd.2 m hm; omega)
        have HRS := Lib.hid (HL.out.rdS (by omega) (fun m hm => by have := hbd.2 m hm; omega))
        have HRD : Hid (RdW wr (.s [(⟨nm, addAll ls⟩ : GScript)].length ([(⟨nm, addAll ls⟩ : GScript)].flatMap eScript)) (.slice (some ⟨g0, 0, none⟩) 1 cap)) := by
          unfold Hid; rw [List.flatMap_cons, List.flatMap_nil, List.append_nil]; exact hrd
        have hsz : sizL ([(⟨nm, addAll ls⟩ : GScript)].flatMap eScript) ≤ 1048576 := by
          have := siz_smallS HT.out.good.small
          rw [List.flatMap_cons, List.flatMap_nil, List.append_nil]; omega
        have HGL := Lib.hid (And.intro HT.out.good HT.out.lib)
        have HTX := Lib.hid HT.out.txt
        clear hrd hbd
        go_wp2_with fail
        refine (spec_IsLibrary_calls _ [⟨nm, addAll ls⟩] _ HRD.out hsz).mono ?_
        rintro e w2 ⟨rfl, hb⟩
        rw [HGL.out.2]
        have HRD2 := Lib.hid (HRD.out.below hb)
        have HB2 := Lib.hid (HB.out.trans (hb.mono zr))
        have hbS := hb
        clear hb
        go_wp2_with fail
        refine (spec_FormatLibrary_calls _ ⟨nm, addAll ls⟩ _ HRD2.out HGL.out.1 HGL.out.2).mono ?_
        rintro e w3 ⟨rfl, hb⟩
        rw [HTX.out]
        have HB3 := Lib.hid (HB2.out.trans (hb.mono HB2.out.size))
        have hz0 := HB0.out.size
        have hzz := hbS.size
        have hzy := hb.size
        have HRD3 : Hid (Rd (fun k => w.heap.size ≤ k ∧ k < w3.heap.size) w3 (.s 1 (eScript ⟨nm, addAll ls⟩)) (.slice (some ⟨g0, 0, none⟩) 1 cap)) := Rd.mono (fun k hk => ⟨by have := hk.1; omega, by have := hk.2; omega⟩) _ _ (Rd.keep (w := wr) (fun k hk => (hb.block k (by have := hk.2; omega)).trans (hbS.block k hk.2)) _ _ HRS.out)
        clear hb hbS
        go_wp2
        refine bodyPost_ret (v := .tuple #[.slice (some ⟨g0, 0, none⟩) 1 cap, .bool true]) (by simp [results, Try.results90, go_sem]) rfl ⟨g0, cap, rfl, HRD3.out, HB0.out.trans (HB3.out.mono HB0.out.size)⟩

end Go.Proofs.Ytiohoeafdaihpaa
