import Derived.Test.YtiohoeafdaihpaaProg
import Derived.Test.YtiohoeafdaihpaaTypes
import Derived.StillTailTactics
import Derived.Deep.RegionHeld3
import Derived.Laws.IdiomStrings
import Derived.Test.YtiohoeafdaihpaaAppend
import Derived.Laws.StructEq
import Derived.Lib.SliceRun
import Derived.Shelf.RegionOpenPlain
import Derived.Test.YtiohoeafdaihpaaPureLib
import Derived.Test.YtiohoeafdaihpaaIsMethod
namespace Go.Proofs.Ytiohoeafdaihpaa
open Go.RowKit
set_option linter.unusedVariables false
set_option linter.unusedSimpArgs false

set_option maxHeartbeats 800000 in
set_option maxRecDepth 100000 in
theorem slices_IndexFunc_Method (p : GMethod → Bool) (g : Nat) (lb : Array Value) (eg : ∀ args w, (callFunc g args).run Try.prog w = .ok (.enter g args) w) (v : Value) (xs : List GMethod) (w : World) (hr : RdW w (.s xs.length (xs.flatMap eMethod)) v)
    (hp : ∀ (W : World) (x : GMethod) (us : List Value), Below w.heap.size w W → x ∈ xs → RdLW W (eMethod x) us → Calls Try.prog g (#[.agg us.toArray] ++ lb) W fun e w' => e = .returned (.bool (p x)) ∧ Below W.heap.size W w') :
    Calls Try.prog 102 #[v, .func (.func g) #[] lb] w fun e w' => e = .returned (.int .i64 (idx p xs)) ∧ Below w.heap.size w w' := by
  obtain ⟨A, c, rfl, ⟨_, _, hl⟩⟩ := hr.slice
  have HR := Lib.hid hr
  have HP := Lib.hid hp
  clear hr hp
  go_enter Try.func102, Try.ntmps102
  go_wp2
  go_loopw [8] (fun a wr => ∃ i : Nat, i ≤ xs.length ∧ a = .int .i64 i ∧ Hid (Below w.heap.size w wr) ∧ Hid (∀ j y, j < i → xs[j]? = some y → p y = false)) (fun a wr => xs.length - (intOf a).toNat)
  case atStart => exact ⟨0, by omega, rfl, Below.refl _ _, no_start⟩
  case round =>
    obtain ⟨i, hi, rfl, HB, hno⟩ := hrel
    by_cases hlt : i < xs.length
    · obtain ⟨x, hx⟩ : ∃ x, xs[i]? = some x := ⟨xs[i], List.getElem?_eq_getElem hlt⟩
      obtain ⟨ad, v1, rfl, hadb, h0, h1, k1⟩ := row_eMethod (HR.out.below HB.out) hx
      have hcall := HP.out wr x _ HB.out (List.mem_of_getElem? hx) (mkrd_eMethod (x := x) k1)
      have HX := Lib.hid hx
      clear hx k1
      cases hq : p x with
      | true =>
        rw [hq] at hcall
        have HE := Lib.hid (idx_hit HX.out hq hno.out)
        go_wp2_with (go_at_fn g; refine hcall.mono ?_; rintro e w' ⟨rfl, hb'⟩)
        go_ret
        exact ⟨by rw [HE.out]; rfl, HB.out.trans (hb'.mono HB.out.size)⟩
      | false =>
        rw [hq] at hcall
        have HN := Lib.hid (step_no (p := fun y => p y = false) hno.out HX.out hq)
        go_wp2_with (go_at_fn g; refine hcall.mono ?_; rintro e w' ⟨rfl, hb'⟩)
        go_roundw
        case rel => exact ⟨i + 1, by omega, by go_num, HB.out.trans (hb'.mono HB.out.size), HN⟩
        case measure => simp [intOf]; omega
    · have : i = xs.length := by omega
      subst this
      have HE := Lib.hid (idx_miss (all_of (p := fun y => p y = false) hno.out))
      go_wp2
      go_ret
      exact ⟨by rw [HE.out]; rfl, HB.out⟩

set_option maxHeartbeats 800000 in
set_option maxRecDepth 100000 in
theorem slices_ContainsFunc_Method (p : GMethod → Bool) (g : Nat) (lb : Array Value) (eg : ∀ args w, (callFunc g args).run Try.prog w = .ok (.enter g args) w) (v : Value) (xs : List GMethod) (w : World) (hr : RdW w (.s xs.length (xs.flatMap eMethod)) v)
    (hp : ∀ (W : World) (x : GMethod) (us : List Value), Below w.heap.size w W → x ∈ xs → RdLW W (eMethod x) us → Calls Try.prog g (#[.agg us.toArray] ++ lb) W fun e w' => e = .returned (.bool (p x)) ∧ Below W.heap.size W w') :
    Calls Try.prog 77 #[v, .func (.func g) #[] lb] w fun e w' => e = .returned (.bool (xs.any p)) ∧ Below w.heap.size w w' := by
  have hcon := slices_IndexFunc_Method p g lb eg v xs w hr hp
  obtain ⟨A, c, rfl, _⟩ := hr.slice
  have HE := Lib.hid (idx_any p xs)
  clear hr hp
  generalize idx p xs = r at hcon HE
  go_enter Try.func77, Try.ntmps77
  go_wp2_with (go_at_call 102; refine hcon.mono ?_; rintro e w' ⟨rfl, hb'⟩)
  go_ret
  exact ⟨by rw [← HE.out]; rfl, hb'⟩

set_option maxHeartbeats 800000 in
theorem impl_isScript1_calls (B : Nat) (y : GMethod) (us : List Value) (n : ByteArray) (v : Value) (W : World) (hb : Blk W B 29 #[.string n, v]) (hr : RdLW W (eMethod y) us) :
    Calls Try.prog 111 #[.agg us.toArray, .pointer (some ⟨B, 0, none⟩)] W fun e w' => e = .returned (.bool (y.Name.toList == n.toList)) ∧ Below W.heap.size W w' := by
  obtain ⟨u1, rfl, -⟩ := rd_eMethod hr
  obtain ⟨k0, k1⟩ := hb.rules
  have hlt := hb.lt
  clear hr
  go_enter Try.func111, Try.ntmps111
  go_wp2
  go_ret
  exact ⟨rfl, (Below.refl _ _).alloc (Nat.le_refl _) _⟩
set_option maxHeartbeats 3200000 in
theorem impl_isScript_calls (us : List Value) (x : GScript) (w : World) (hr : RdLW w (eScript x) us) (hz : sizL (eScript x) ≤ 1048576) :
    Calls Try.prog 101 #[.agg us.toArray] w fun e w' => e = .returned (.bool (scriptB x)) ∧ Below w.heap.size w w' := by
  have hzq := hz
  rw [siz_eScript] at hzq
  obtain ⟨v1, rfl, h1⟩ := rd_eScript hr
  obtain ⟨A, c, rfl, ⟨_, _, hl⟩⟩ := h1.slice
  have HR := Lib.hid h1
  have hn : x.Name.size ≤ 140737488355328 := by omega
  have HMZ := Lib.hid (fun (m : GMethod) (hm : m ∈ x.Methods) => by
    have h2 := sizL_flat_le eMethod x.Methods m hm
    exact (by omega : sizL (eMethod m) ≤ 1048576))
  have HB0 := Lib.hid ((Below.refl w.heap.size w).alloc (Nat.le_refl _) (.cells #[.string x.Name, .slice A x.Methods.length c] 51))
  clear hz hr h1
  rcases Bool.eq_false_or_eq_true (nameB x.Name) with q1 | q1
  rotate_left
  · have HE : Hid (scriptB x = false) := by unfold Hid scriptB; rw [q1]; rfl
    go_enter Try.func101, Try.ntmps101
    go_wp2_with (go_at_call 93; refine (impl_isName_calls _ _ hn).mono ?_; rintro e w1 ⟨rfl, rfl⟩; rw [q1])
    go_ret
    exact ⟨by rw [HE.out]; rfl, HB0.out⟩
  by_cases q2 : ¬ x.Methods.length ≤ 4
  · have HE : Hid (scriptB x = false) := by unfold Hid scriptB; simp [q2]
    go_enter Try.func101, Try.ntmps101
    go_wp2_with (go_at_call 93; refine (impl_isName_calls _ _ hn).mono ?_; rintro e w1 ⟨rfl, rfl⟩; rw [q1])
    go_ret
    exact ⟨by rw [HE.out]; rfl, HB0.out⟩
  replace q2 := Classical.not_not.1 q2
  have HS : Hid (scriptB x = allAt (methodAt x.Methods) x.Methods) := by unfold Hid scriptB; rw [q1, decide_eq_true q2]; rfl
  go_enter Try.func101, Try.ntmps101
  go_wp2_with (go_at_call 93; refine (impl_isName_calls _ _ hn).mono ?_; rintro e w1 ⟨rfl, rfl⟩; rw [q1])
  go_loopw [18] (fun a wr => ∃ i : Nat, i ≤ x.Methods.length ∧ a = .int .i64 i ∧ Hid (Below w.heap.size w wr) ∧ Hid (Blk wr w.heap.size 51 #[.string x.Name, .slice A x.Methods.length c]) ∧ Hid (∀ j y, j < i → x.Methods[j]? = some y → methodAt x.Methods j y = true)) (fun a wr => x.Methods.length - (intOf a).toNat)
  case atStart => exact ⟨0, by omega, rfl, HB0, Blk.new _ _ _, fun j y h => absurd h (Nat.not_lt_zero _)⟩
  case round =>
    obtain ⟨i, hi, rfl, HB, HK, hno⟩ := hrel
    obtain ⟨kb, kf⟩ := HK.out.rules
    have hbl := HK.out.lt
    have zr := HB.out.size
    by_cases hlt : i < x.Methods.length
    · obtain ⟨m, hm⟩ : ∃ m, x.Methods[i]? = some m := ⟨x.Methods[i], List.getElem?_eq_getElem hlt⟩
      obtain ⟨ad, u1, rfl, hab, k0, k1, hq⟩ := row_eMethod (HR.out.below HB.out) hm
      obtain ⟨A2, c2, rfl, -⟩ := hq.slice
      have hmz := HMZ.out m (List.mem_of_getElem? hm)
      have HX := Lib.hid hm
      have hml : RdLW wr (eMethod m) [.string m.Name, .slice A2 m.Code.length c2] := mkrd_eMethod hq
      have HCM := Lib.hid (impl_isMethod_calls _ m (wr.alloc (.cells #[.string m.Name, .slice A2 m.Code.length c2] 29)) (hml.below ((Below.refl _ _).alloc (Nat.le_refl _) _)) hmz)
      clear hm hq hml
      rcases Bool.eq_false_or_eq_true (methodB m) with g1 | g1
      rotate_left
      · have HE : Hid (scriptB x = false) := by unfold Hid; rw [HS.out]; exact allAt_false HX.out (by unfold methodAt; rw [g1]; rfl)
        go_wp2_with fail
        refine HCM.out.mono ?_
        rintro e w2 ⟨rfl, hb2⟩
        rw [g1]
        go_wp2
        go_ret
        exact ⟨by rw [HE.out]; rfl, HB.out.trans (((Below.refl wr.heap.size wr).alloc (Nat.le_refl _) _).trans (hb2.mono (by simp)) |>.mono zr)⟩
      · go_wp2_with fail
        refine HCM.out.mono ?_
        rintro e w2 ⟨rfl, hb2⟩
        rw [g1]
        have HB2 := Lib.hid (((Below.refl wr.heap.size wr).alloc (Nat.le_refl _) (.cells #[.string m.Name, .slice A2 m.Code.length c2] 29)).trans (hb2.mono (by simp)))
        have HKM := Lib.hid ((Blk.new wr 29 #[.string m.Name, .slice A2 m.Code.length c2]).below hb2)
        have HK2 := Lib.hid (HK.out.below HB2.out)
        obtain ⟨p0, p1⟩ := HK2.out.rules
        have p2 := HK2.out.lt
        have HRT := Lib.hid ((HR.out.below (HB.out.trans (HB2.out.mono zr))).takeN i hi)
        have HCF := Lib.hid (slices_ContainsFunc_Method (fun o : GMethod => o.Name.toList == m.Name.toList) 111 #[.pointer (some ⟨wr.heap.size, 0, none⟩)] (enters_of Try.func111 (by kernel_rfl) rfl) _ (x.Methods.take i) w2 HRT.out
          (fun W y us hW hy hus => impl_isScript1_calls wr.heap.size y us m.Name _ W (HKM.out.below hW) hus))
        obtain ⟨an, han⟩ : ∃ an, an = ((x.Methods.take i).any fun o => o.Name.toList == m.Name.toList) := ⟨_, rfl⟩
        rw [← han] at HCF
        have HAN := Lib.hid han
        clear hb2 han
        go_wp2_with fail
        refine HCF.out.mono ?_
        rintro e w3 ⟨rfl, hb3⟩
        have HB3 := Lib.hid (HB2.out.trans (hb3.mono HB2.out.size))
        have HK3 := Lib.hid (HK2.out.below hb3)
        clear hb3
        cases an with
        | true =>
          have HE : Hid (scriptB x = false) := by unfold Hid; rw [HS.out]; exact allAt_false HX.out (by unfold methodAt; rw [g1, ← HAN.out]; rfl)
          go_wp2
          go_ret
          exact ⟨by rw [HE.out]; rfl, HB.out.trans (HB3.out.mono zr)⟩
        | false =>
          have HN := Lib.hid (stepAt (p := methodAt x.Methods) hno.out HX.out (by unfold methodAt; rw [g1, ← HAN.out]; rfl))
          go_wp2
          go_roundw
          case rel => exact ⟨i + 1, by omega, by go_num, HB.out.trans (HB3.out.mono zr), HK3, HN⟩
          case measure => simp [intOf]; omega
    · have : i = x.Methods.length := by omega
      subst this
      have HE : Hid (scriptB x = true) := by unfold Hid; rw [HS.out]; exact allAt_true (fun j y hj hy => hno.out j y hj hy)
      go_wp2
      go_ret
      exact ⟨by rw [HE.out]; rfl, HB.out⟩

end Go.Proofs.Ytiohoeafdaihpaa
