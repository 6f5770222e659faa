import Derived.Test.YtiohoeafdaihpaaProg
import Derived.Test.YtiohoeafdaihpaaTypes
import Derived.StillTailTactics
import Derived.Deep.CutBlock
import Derived.Deep.CutRange
import Derived.Laws.OwnMore
import Derived.Deep.AppendLies
import Derived.Deep.RegionWith
import Derived.Deep.RegionHeld3
import Derived.Laws.IdiomStrings
import Derived.Test.YtiohoeafdaihpaaAppend
import Derived.Laws.StructEq
import Derived.Lib.SliceRun
import Derived.Shelf.RegionOpenPlain
import Derived.Test.YtiohoeafdaihpaaTxt4
import Derived.Test.YtiohoeafdaihpaaDrawG3
import Derived.Test.YtiohoeafdaihpaaLibB
import Derived.Test.YtiohoeafdaihpaaOrders
namespace Go.Proofs.Ytiohoeafdaihpaa
open Go.RowKit
set_option linter.unusedVariables false
set_option linter.unusedSimpArgs false

def nl : ByteArray := ⟨#[10]⟩
def kwM : ByteArray := ⟨#[109, 101, 116, 104, 111, 100, 32]⟩
def kwS : ByteArray := ⟨#[115, 99, 114, 105, 112, 116, 32]⟩
def codeTxt (s : ByteArray) (ys : List GInstr) : ByteArray := ys.foldl (fun s y => s ++ fmtI y ++ nl) s
def methTxt (s : ByteArray) (ms : List GMethod) : ByteArray := ms.foldl (fun s m => codeTxt (s ++ kwM ++ m.Name ++ nl) m.Code) s
/-- the text of a script -/
def fmtS (x : GScript) : ByteArray := methTxt (kwS ++ x.Name ++ nl) x.Methods
theorem codeTxt_size (ys : List GInstr) : ∀ s : ByteArray, s.size ≤ (codeTxt s ys).size := by
  induction ys with
  | nil => intro s; exact Nat.le_refl _
  | cons y ys ih =>
    intro s
    have h := ih (s ++ fmtI y ++ nl)
    rw [ByteArray.size_append, ByteArray.size_append] at h
    exact Nat.le_trans (by omega) h
theorem methTxt_size (ms : List GMethod) : ∀ s : ByteArray, s.size ≤ (methTxt s ms).size := by
  induction ms with
  | nil => intro s; exact Nat.le_refl _
  | cons m ms ih =>
    intro s
    have h := ih (codeTxt (s ++ kwM ++ m.Name ++ nl) m.Code)
    have h2 := codeTxt_size m.Code (s ++ kwM ++ m.Name ++ nl)
    rw [ByteArray.size_append, ByteArray.size_append, ByteArray.size_append] at h2
    exact Nat.le_trans (by omega) h
theorem codeTxt_step {ys : List GInstr} {k : Nat} {y : GInstr} {s : ByteArray} (h : ys[k]? = some y) : codeTxt s (ys.drop k) = codeTxt (s ++ fmtI y ++ nl) (ys.drop (k + 1)) := by
  obtain ⟨hk, rfl⟩ := List.getElem?_eq_some_iff.1 h
  rw [List.drop_eq_getElem_cons hk]; rfl
theorem methTxt_step {ms : List GMethod} {i : Nat} {m : GMethod} {s : ByteArray} (h : ms[i]? = some m) : methTxt s (ms.drop i) = methTxt (codeTxt (s ++ kwM ++ m.Name ++ nl) m.Code) (ms.drop (i + 1)) := by
  obtain ⟨hk, rfl⟩ := List.getElem?_eq_some_iff.1 h
  rw [List.drop_eq_getElem_cons hk]; rfl
/-- a script of the given texts -/
structure GoodS (x : GScript) : Prop where
  ok : scriptB x = true
  nm : x.Name.size ≤ 7
  len : x.Methods.length ≤ 6
  m : ∀ m, m ∈ x.Methods → SmallM m ∧ ∀ y, y ∈ m.Code → GoodI y
  txt : (fmtS x).size ≤ 4000
theorem GoodS.small {x : GScript} (h : GoodS x) : SmallS x := ⟨h.nm, h.len, fun m hm => (h.m m hm).1⟩
set_option maxHeartbeats 12800000 in
set_option maxRecDepth 100000 in
theorem spec_FormatScript_calls (us : List Value) (x : GScript) (w : World) (hr : RdLW w (eScript x) us) (hx : GoodS x) :
    Calls Try.prog 113 #[.agg us.toArray] w fun e w' => e = .returned (.string (fmtS x)) ∧ Below w.heap.size w w' := by
  have HX := Lib.hid hx
  have HRX := Lib.hid hr
  obtain ⟨v1, rfl, h1⟩ := rd_eScript hr
  obtain ⟨A, c, rfl, hok⟩ := h1.slice
  have hT : (fmtS x).size ≤ 4000 := hx.txt
  have hnm := hx.nm
  have hsz := siz_smallS hx.small
  have hml := hx.len
  clear hr hx hok
  have HR := Lib.hid (h1.alloc (.cells #[.string x.Name, .slice A x.Methods.length c] 51))
  have HK0 := Lib.hid (Blk.new w 51 #[.string x.Name, .slice A x.Methods.length c])
  have HB0 := Lib.hid ((Below.refl w.heap.size w).alloc (Nat.le_refl _) (.cells #[.string x.Name, .slice A x.Methods.length c] 51))
  have HRA := Lib.hid (HRX.out.below HB0.out)
  clear h1
  go_enter Try.func113, Try.ntmps113
  go_wp2_with fail
  refine (spec_IsScript_calls _ x _ HRA.out (by omega)).mono ?_
  rintro e w1 ⟨rfl, hb_⟩
  rw [HX.out.ok]
  replace HR := Lib.hid (HR.out.below hb_)
  replace HK0 := Lib.hid (HK0.out.below hb_)
  replace HB0 := Lib.hid (HB0.out.trans (hb_.mono HB0.out.size))
  clear hb_ HRA HRX
  obtain ⟨kk, ff⟩ := HK0.out.rules
  have ll := HK0.out.lt
  go_wp2
  clear kk ff
  go_loopw [3, 4] (fun a b wr => ∃ (i : Nat) (s : ByteArray), i ≤ x.Methods.length ∧ a = .string s ∧ b = .int .i64 i ∧ Hid (methTxt s (x.Methods.drop i) = fmtS x) ∧ Hid (Below w1.heap.size w1 wr)) (fun a b wr => x.Methods.length - (intOf b).toNat)
  case atStart => exact ⟨0, _, by omega, rfl, rfl, rfl, Below.refl _ _⟩
  case round =>
    obtain ⟨i, s, hi, rfl, rfl, HT, HB⟩ := hrel
    have hss := methTxt_size (x.Methods.drop i) s
    rw [HT.out] at hss
    have HK := Lib.hid (HK0.out.below HB.out)
    obtain ⟨kk, ff⟩ := HK.out.rules
    have lk := HK.out.lt
    by_cases hlt : i < x.Methods.length
    · obtain ⟨m, hm⟩ : ∃ m, x.Methods[i]? = some m := ⟨_, List.getElem?_eq_getElem hlt⟩
      obtain ⟨ad, v1, rfl, hab, q0, q1, hcode⟩ := row_eMethod (HR.out.below HB.out) hm
      obtain ⟨Am, cm, rfl, hokm⟩ := hcode.slice
      have hab' : (ad.add (i * 2)).block < wr.heap.size := by rw [block_of_add]; exact hab
      have HGM := Lib.hid (HX.out.m m (List.mem_of_getElem? hm))
      have hmn := HGM.out.1.1
      have hml2 := HGM.out.1.2.1
      have HCD := Lib.hid hcode
      have HT2 : Hid (methTxt (codeTxt (s ++ kwM ++ m.Name ++ nl) (m.Code.drop 0)) (x.Methods.drop (i + 1)) = fmtS x) := by unfold Hid; rw [List.drop_zero, ← methTxt_step hm]; exact HT.out
      have HQ := Lib.hid (And.intro q0 q1)
      clear hm hcode hokm
      go_wp2
      clear kk ff q0 q1
      go_loopw [3, 5] (fun a b wr2 => ∃ (k : Nat) (s2 : ByteArray), k ≤ m.Code.length ∧ a = .string s2 ∧ b = .int .i64 k ∧ Hid (methTxt (codeTxt s2 (m.Code.drop k)) (x.Methods.drop (i + 1)) = fmtS x) ∧ Hid (Below wr.heap.size wr wr2)) (fun a b wr2 => m.Code.length - (intOf b).toNat)
      case atStart => exact ⟨0, _, by omega, rfl, rfl, HT2, Below.refl _ _⟩
      case round =>
        obtain ⟨k, s2, hk, rfl, rfl, HT3, HB3⟩ := hrel
        have hz3 := HB3.out.size
        have hs2 := codeTxt_size (m.Code.drop k) s2
        have hs3 := methTxt_size (x.Methods.drop (i + 1)) (codeTxt s2 (m.Code.drop k))
        rw [HT3.out] at hs3
        have HK3 := Lib.hid (HK.out.below HB3.out)
        obtain ⟨kk, ff⟩ := HK3.out.rules
        have lk3 := HK3.out.lt
        have q0 := cell_below HB3.out HQ.out.1 hab'
        have q1 := cell_below HB3.out HQ.out.2 hab'
        have hab3 : (ad.add (i * 2)).block < wr.heap.size := by omega
        by_cases hlt2 : k < m.Code.length
        · obtain ⟨y, hy⟩ : ∃ y, m.Code[k]? = some y := ⟨_, List.getElem?_eq_getElem hlt2⟩
          obtain ⟨ad2, rfl, hab2, p0, p1, p2, p3, p4, p5⟩ := row_eInstr (HCD.out.below HB3.out) hy
          have hab4 : (ad2.add (k * 6)).block < wr.heap.size := by rw [block_of_add]; exact hab2
          have HGI := Lib.hid (HGM.out.2 y (List.mem_of_getElem? hy))
          have HT4 : Hid (methTxt (codeTxt (s2 ++ fmtI y ++ nl) (m.Code.drop (k + 1))) (x.Methods.drop (i + 1)) = fmtS x) := by unfold Hid; rw [← codeTxt_step hy]; exact HT3.out
          have hs4 := codeTxt_size (m.Code.drop (k + 1)) (s2 ++ fmtI y ++ nl)
          rw [← codeTxt_step hy, ByteArray.size_append, ByteArray.size_append] at hs4
          have hs5 : s2.size + (fmtI y).size ≤ 4000 := by omega
          clear hy
          go_wp2_with fail
          refine (spec_FormatInstr_calls y HGI.out _).mono ?_
          rintro e w5 ⟨rfl, hb_⟩
          have HB5 := Lib.hid (HB3.out.trans (hb_.mono hz3))
          clear hb_ kk ff q0 q1 p0 p1 p2 p3 p4 p5
          go_wp2
          go_roundw
          case rel => exact ⟨k + 1, s2 ++ fmtI y ++ nl, by omega, rfl, by go_num, HT4, HB5⟩
          case measure => (simp [intOf] <;> omega)
        · have hke : k = m.Code.length := by omega
          subst hke
          have HT5 : Hid (methTxt s2 (x.Methods.drop (i + 1)) = fmtS x) := by
            have h := HT3.out
            rw [List.drop_length] at h
            exact h
          have HB5 := Lib.hid (HB.out.trans (HB3.out.mono HB.out.size))
          go_wp2
          go_roundw
          case rel => exact ⟨i + 1, s2, by omega, rfl, by go_num, HT5, HB5⟩
          case measure => (simp [intOf] <;> omega)
    · have hie : i = x.Methods.length := by omega
      subst hie
      have hE : s = fmtS x := by
        have h := HT.out
        rw [List.drop_length] at h
        exact h
      go_wp2
      go_ret
      exact ⟨by rw [← hE]; rfl, HB0.out.trans (HB.out.mono HB0.out.size)⟩
theorem nil_append_b (s : ByteArray) : (⟨#[]⟩ : ByteArray) ++ s = s := ByteArray.ext (by simp)
set_option maxHeartbeats 12800000 in
theorem spec_FormatLibrary_calls (v : Value) (x : GScript) (w : World) (hr : RdW w (.s [x].length ([x].flatMap eScript)) v) (hx : GoodS x) (hl : libraryB [x] = true) :
    Calls Try.prog 107 #[v] w fun e w' => e = .returned (.string (fmtS x)) ∧ Below w.heap.size w w' := by
  have HX := Lib.hid hx
  have HR := Lib.hid hr
  have HL := Lib.hid hl
  obtain ⟨A, c, rfl, hok⟩ := hr.slice
  have hT : (fmtS x).size ≤ 4000 := hx.txt
  have hsz : sizL ([x].flatMap eScript) ≤ 1048576 := by
    have := siz_smallS hx.small
    rw [List.flatMap_cons, List.flatMap_nil, List.append_nil]; omega
  clear hr hx hok hl
  go_enter Try.func107, Try.ntmps107
  go_wp2_with fail
  refine (spec_IsLibrary_calls _ [x] _ HR.out hsz).mono ?_
  rintro e w1 ⟨rfl, hb_⟩
  rw [HL.out]
  replace HR := Lib.hid (HR.out.below hb_)
  have HB0 := Lib.hid hb_
  clear hb_
  go_wp2
  go_loopw [3, 4] (fun a b wr => Hid (Below w1.heap.size w1 wr) ∧ ((a = .string ⟨#[]⟩ ∧ b = .int .i64 0) ∨ (a = .string (fmtS x) ∧ b = .int .i64 1))) (fun a b wr => 1 - (intOf b).toNat)
  case atStart => exact ⟨Below.refl _ _, .inl ⟨rfl, rfl⟩⟩
  case round =>
    obtain ⟨HB, ⟨rfl, rfl⟩ | ⟨rfl, rfl⟩⟩ := hrel
    · have zr := HB.out.size
      obtain ⟨ad, v1, rfl, hab, q0, q1, hm⟩ := row_eScript (i := 0) (x := x) (HR.out.below HB.out) rfl
      have hz0 : ad.add (0 * 2) = ad := by rw [Nat.zero_mul]; exact Addr.add_zero' ad
      rw [hz0] at q0 q1
      have HM := Lib.hid (mkrd_eScript (x := x) hm)
      obtain ⟨Am, cm, rfl, hokm⟩ := hm.slice
      clear hm hokm
      go_wp2_with fail
      refine (spec_FormatScript_calls _ x _ HM.out HX.out).mono ?_
      rintro e w2 ⟨rfl, hb_⟩
      have HB2 := Lib.hid (HB.out.trans (hb_.mono zr))
      clear hb_
      go_wp2
      go_roundw
      case rel => exact ⟨HB2, .inr ⟨by rw [nil_append_b], rfl⟩⟩
      case measure => simp [intOf]
    · go_wp2
      go_ret
      exact ⟨rfl, HB0.out.trans (HB.out.mono HB0.out.size)⟩

end Go.Proofs.Ytiohoeafdaihpaa
