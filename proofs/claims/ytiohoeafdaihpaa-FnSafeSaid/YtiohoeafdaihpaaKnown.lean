import Derived.Test.YtiohoeafdaihpaaProg
import Derived.Test.YtiohoeafdaihpaaTypes
import Derived.StillTailTactics
import Derived.Deep.RegionHeld3
import Derived.Laws.IdiomStrings
import Derived.Test.YtiohoeafdaihpaaAppend
import Derived.Laws.StructEq
import Derived.Lib.SliceRun
import Derived.Shelf.RegionOpenPlain
import Derived.Test.YtiohoeafdaihpaaMadeS
import Derived.Test.YtiohoeafdaihpaaMadeI
namespace Go.Proofs.Ytiohoeafdaihpaa
open Go.RowKit
set_option linter.unusedVariables false
set_option linter.unusedSimpArgs false

set_option maxHeartbeats 800000 in
set_option maxRecDepth 100000 in
theorem slices_IndexFunc_Script (p : GScript → Bool) (g : Nat) (lb : Array Value) (eg : ∀ args w, (callFunc g args).run Try.prog w = .ok (.enter g args) w) (v : Value) (xs : List GScript) (w : World) (hr : RdW w (.s xs.length (xs.flatMap eScript)) v)
    (hp : ∀ (W : World) (x : GScript) (us : List Value), Below w.heap.size w W → x ∈ xs → RdLW W (eScript x) us → Calls Try.prog g (#[.agg us.toArray] ++ lb) W fun e w' => e = .returned (.bool (p x)) ∧ Below W.heap.size W w') :
    Calls Try.prog 97 #[v, .func (.func g) #[] lb] w fun e w' => e = .returned (.int .i64 (idx p xs)) ∧ Below w.heap.size w w' := by
  obtain ⟨A, c, rfl, ⟨_, _, hl⟩⟩ := hr.slice
  have HR := Lib.hid hr
  have HP := Lib.hid hp
  clear hr hp
  go_enter Try.func97, Try.ntmps97
  go_wp2
  go_loopw [8] (fun a wr => ∃ i : Nat, i ≤ xs.length ∧ a = .int .i64 i ∧ Hid (Below w.heap.size w wr) ∧ Hid (∀ j y, j < i → xs[j]? = some y → p y = false)) (fun a wr => xs.length - (intOf a).toNat)
  case atStart => exact ⟨0, by omega, rfl, Below.refl _ _, no_start⟩
  case round =>
    obtain ⟨i, hi, rfl, HB, hno⟩ := hrel
    by_cases hlt : i < xs.length
    · obtain ⟨x, hx⟩ : ∃ x, xs[i]? = some x := ⟨xs[i], List.getElem?_eq_getElem hlt⟩
      obtain ⟨ad, v1, rfl, hadb, h0, h1, k1⟩ := row_eScript (HR.out.below HB.out) hx
      have hcall := HP.out wr x _ HB.out (List.mem_of_getElem? hx) (mkrd_eScript (x := x) k1)
      have HX := Lib.hid hx
      clear hx k1
      cases hq : p x with
      | true =>
        rw [hq] at hcall
        have HE := Lib.hid (idx_hit HX.out hq hno.out)
        go_wp2_with (go_at_fn g; refine hcall.mono ?_; rintro e w' ⟨rfl, hb'⟩)
        go_ret
        exact ⟨by rw [HE.out]; rfl, HB.out.trans (hb'.mono HB.out.size)⟩
      | false =>
        rw [hq] at hcall
        have HN := Lib.hid (step_no (p := fun y => p y = false) hno.out HX.out hq)
        go_wp2_with (go_at_fn g; refine hcall.mono ?_; rintro e w' ⟨rfl, hb'⟩)
        go_roundw
        case rel => exact ⟨i + 1, by omega, by go_num, HB.out.trans (hb'.mono HB.out.size), HN⟩
        case measure => simp [intOf]; omega
    · have : i = xs.length := by omega
      subst this
      have HE := Lib.hid (idx_miss (all_of (p := fun y => p y = false) hno.out))
      go_wp2
      go_ret
      exact ⟨by rw [HE.out]; rfl, HB.out⟩

set_option maxHeartbeats 800000 in
set_option maxRecDepth 100000 in
theorem slices_ContainsFunc_Script (p : GScript → Bool) (g : Nat) (lb : Array Value) (eg : ∀ args w, (callFunc g args).run Try.prog w = .ok (.enter g args) w) (v : Value) (xs : List GScript) (w : World) (hr : RdW w (.s xs.length (xs.flatMap eScript)) v)
    (hp : ∀ (W : World) (x : GScript) (us : List Value), Below w.heap.size w W → x ∈ xs → RdLW W (eScript x) us → Calls Try.prog g (#[.agg us.toArray] ++ lb) W fun e w' => e = .returned (.bool (p x)) ∧ Below W.heap.size W w') :
    Calls Try.prog 61 #[v, .func (.func g) #[] lb] w fun e w' => e = .returned (.bool (xs.any p)) ∧ Below w.heap.size w w' := by
  have hcon := slices_IndexFunc_Script p g lb eg v xs w hr hp
  obtain ⟨A, c, rfl, _⟩ := hr.slice
  have HE := Lib.hid (idx_any p xs)
  clear hr hp
  generalize idx p xs = r at hcon HE
  go_enter Try.func61, Try.ntmps61
  go_wp2_with (go_at_call 97; refine hcon.mono ?_; rintro e w' ⟨rfl, hb'⟩)
  go_ret
  exact ⟨by rw [← HE.out]; rfl, hb'⟩

set_option maxHeartbeats 800000 in
set_option maxRecDepth 100000 in
theorem slices_IndexFunc_String (p : ByteArray → Bool) (g : Nat) (lb : Array Value) (eg : ∀ args w, (callFunc g args).run Try.prog w = .ok (.enter g args) w) (v : Value) (xs : List ByteArray) (w : World) (hr : RdW w (.s xs.length (xs.flatMap eStr)) v)
    (hp : ∀ (W : World) (x : ByteArray) (us : List Value), Below w.heap.size w W → x ∈ xs → RdLW W (eStr x) us → Calls Try.prog g (#[us.headD undef] ++ lb) W fun e w' => e = .returned (.bool (p x)) ∧ Below W.heap.size W w') :
    Calls Try.prog 98 #[v, .func (.func g) #[] lb] w fun e w' => e = .returned (.int .i64 (idx p xs)) ∧ Below w.heap.size w w' := by
  obtain ⟨A, c, rfl, ⟨_, _, hl⟩⟩ := hr.slice
  have HR := Lib.hid hr
  have HP := Lib.hid hp
  clear hr hp
  go_enter Try.func98, Try.ntmps98
  go_wp2
  go_loopw [8] (fun a wr => ∃ i : Nat, i ≤ xs.length ∧ a = .int .i64 i ∧ Hid (Below w.heap.size w wr) ∧ Hid (∀ j y, j < i → xs[j]? = some y → p y = false)) (fun a wr => xs.length - (intOf a).toNat)
  case atStart => exact ⟨0, by omega, rfl, Below.refl _ _, no_start⟩
  case round =>
    obtain ⟨i, hi, rfl, HB, hno⟩ := hrel
    by_cases hlt : i < xs.length
    · obtain ⟨x, hx⟩ : ∃ x, xs[i]? = some x := ⟨xs[i], List.getElem?_eq_getElem hlt⟩
      obtain ⟨ad, rfl, hadb, h0⟩ := row_eStr (HR.out.below HB.out) hx
      have hcall := HP.out wr x _ HB.out (List.mem_of_getElem? hx) (mkrd_eStr (x := x))
      have HX := Lib.hid hx
      clear hx
      cases hq : p x with
      | true =>
        rw [hq] at hcall
        have HE := Lib.hid (idx_hit HX.out hq hno.out)
        go_wp2_with (go_at_fn g; refine hcall.mono ?_; rintro e w' ⟨rfl, hb'⟩)
        go_ret
        exact ⟨by rw [HE.out]; rfl, HB.out.trans (hb'.mono HB.out.size)⟩
      | false =>
        rw [hq] at hcall
        have HN := Lib.hid (step_no (p := fun y => p y = false) hno.out HX.out hq)
        go_wp2_with (go_at_fn g; refine hcall.mono ?_; rintro e w' ⟨rfl, hb'⟩)
        go_roundw
        case rel => exact ⟨i + 1, by omega, by go_num, HB.out.trans (hb'.mono HB.out.size), HN⟩
        case measure => simp [intOf]; omega
    · have : i = xs.length := by omega
      subst this
      have HE := Lib.hid (idx_miss (all_of (p := fun y => p y = false) hno.out))
      go_wp2
      go_ret
      exact ⟨by rw [HE.out]; rfl, HB.out⟩

set_option maxHeartbeats 800000 in
set_option maxRecDepth 100000 in
theorem slices_ContainsFunc_String (p : ByteArray → Bool) (g : Nat) (lb : Array Value) (eg : ∀ args w, (callFunc g args).run Try.prog w = .ok (.enter g args) w) (v : Value) (xs : List ByteArray) (w : World) (hr : RdW w (.s xs.length (xs.flatMap eStr)) v)
    (hp : ∀ (W : World) (x : ByteArray) (us : List Value), Below w.heap.size w W → x ∈ xs → RdLW W (eStr x) us → Calls Try.prog g (#[us.headD undef] ++ lb) W fun e w' => e = .returned (.bool (p x)) ∧ Below W.heap.size W w') :
    Calls Try.prog 63 #[v, .func (.func g) #[] lb] w fun e w' => e = .returned (.bool (xs.any p)) ∧ Below w.heap.size w w' := by
  have hcon := slices_IndexFunc_String p g lb eg v xs w hr hp
  obtain ⟨A, c, rfl, _⟩ := hr.slice
  have HE := Lib.hid (idx_any p xs)
  clear hr hp
  generalize idx p xs = r at hcon HE
  go_enter Try.func63, Try.ntmps63
  go_wp2_with (go_at_call 98; refine hcon.mono ?_; rintro e w' ⟨rfl, hb'⟩)
  go_ret
  exact ⟨by rw [← HE.out]; rfl, hb'⟩

set_option maxHeartbeats 800000 in
theorem spec_FindScript_calls (v : Value) (xs : List GScript) (n : ByteArray) (w : World) (hr : RdW w (.s xs.length (xs.flatMap eScript)) v) :
    Calls Try.prog 66 #[v, .string n] w fun e w' => e = .returned (.int .i64 (findScript xs n)) ∧ w' = w := by
  obtain ⟨A, c, rfl, ⟨_, _, hl⟩⟩ := hr.slice
  have HR := Lib.hid hr
  clear hr
  go_enter Try.func66, Try.ntmps66
  go_wp2
  go_loop [5] (fun b => ∃ i : Nat, i ≤ xs.length ∧ b = .int .i64 i ∧ Hid (∀ j y, j < i → xs[j]? = some y → (y.Name.toList == n.toList) = false)) (fun b => xs.length - (intOf b).toNat)
  case atStart => exact ⟨0, by omega, rfl, no_start⟩
  case round =>
    obtain ⟨i, hi, rfl, hno⟩ := hrel
    by_cases hlt : i < xs.length
    · obtain ⟨y, hy⟩ : ∃ y, xs[i]? = some y := ⟨xs[i], List.getElem?_eq_getElem hlt⟩
      obtain ⟨ad, u1, rfl, hab, k0, k1, -⟩ := row_eScript HR.out hy
      have HX := Lib.hid hy
      clear hy k1
      cases hq : (y.Name.toList == n.toList) with
      | true =>
        have HE := Lib.hid (idx_hit (p := fun s : GScript => s.Name.toList == n.toList) HX.out hq hno.out)
        go_wp2
        go_ret
        exact ⟨by rw [findScript, HE.out]; rfl, rfl⟩
      | false =>
        have HN := Lib.hid (step_no (p := fun y : GScript => (y.Name.toList == n.toList) = false) hno.out HX.out hq)
        go_wp2
        go_round
        case rel => exact ⟨i + 1, by omega, by go_num, HN⟩
        case measure => simp [intOf]; omega
    · have : i = xs.length := by omega
      subst this
      have HE := Lib.hid (idx_miss (all_of (p := fun y : GScript => (y.Name.toList == n.toList) = false) hno.out))
      go_wp2
      go_ret
      exact ⟨by rw [findScript, HE.out]; rfl, rfl⟩
set_option maxHeartbeats 400000 in
theorem impl_FindScript1_calls (B : Nat) (y : GScript) (us : List Value) (n : ByteArray) (W : World) (hb : Blk W B 9 #[.string n]) (hr : RdLW W (eScript y) us) :
    Calls Try.prog 99 #[.agg us.toArray, .pointer (some ⟨B, 0, none⟩)] W fun e w' => e = .returned (.bool (y.Name.toList == n.toList)) ∧ Below W.heap.size W w' := by
  obtain ⟨u1, rfl, -⟩ := rd_eScript hr
  obtain ⟨k0, k1⟩ := hb.rules
  have hlt := hb.lt
  clear hr
  go_enter Try.func99, Try.ntmps99
  go_wp2
  go_ret
  exact ⟨rfl, (Below.refl _ _).alloc (Nat.le_refl _) _⟩
set_option maxHeartbeats 400000 in
theorem impl_FindScript_calls (v : Value) (xs : List GScript) (n : ByteArray) (w : World) (hr : RdW w (.s xs.length (xs.flatMap eScript)) v) :
    Calls Try.prog 65 #[v, .string n] w fun e w' => e = .returned (.int .i64 (findScript xs n)) ∧ Below w.heap.size w w' := by
  have HC := Lib.hid (slices_IndexFunc_Script (fun y : GScript => y.Name.toList == n.toList) 99 #[.pointer (some ⟨w.heap.size, 0, none⟩)] (enters_of Try.func99 (by kernel_rfl) rfl) v xs (w.alloc (.cells #[.string n] 9)) (hr.below ((Below.refl _ _).alloc (Nat.le_refl _) _))
    (fun W y us hW hy hus => impl_FindScript1_calls w.heap.size y us n W ((Blk.new w _ _).below hW) hus))
  obtain ⟨A, c, rfl, -⟩ := hr.slice
  clear hr
  go_enter Try.func65, Try.ntmps65
  go_wp2_with fail
  refine HC.out.mono ?_
  rintro e w1 ⟨rfl, hb1⟩
  go_wp2
  go_ret
  exact ⟨rfl, ((Below.refl _ _).alloc (Nat.le_refl _) _).trans (hb1.mono (by simp only [size_alloc]; omega))⟩
set_option maxHeartbeats 800000 in
theorem impl_AreKnown11_calls (B : Nat) (n : ByteArray) (v : Value) (l : List GScript) (W : World) (hb : Blk W B 36 #[v]) (hr : RdW W (.s l.length (l.flatMap eScript)) v) :
    Calls Try.prog 64 #[.string n, .pointer (some ⟨B, 0, none⟩)] W fun e w' => e = .returned (.bool (unknown l n)) ∧ Below W.heap.size W w' := by
  have HC := Lib.hid (impl_FindScript_calls v l n W hr)
  obtain ⟨A, c, rfl, -⟩ := hr.slice
  obtain ⟨k0, k1⟩ := hb.rules
  have hlt := hb.lt
  clear hr
  obtain ⟨r, hr0⟩ : ∃ r, r = findScript l n := ⟨_, rfl⟩
  have HU : Hid (unknown l n = decide (r < 0)) := by unfold Hid unknown; rw [hr0]
  rw [← hr0] at HC
  clear hr0
  go_enter Try.func64, Try.ntmps64
  go_wp2_with fail
  refine HC.out.mono ?_
  rintro e w1 ⟨rfl, hb1⟩
  go_wp2
  go_ret
  exact ⟨by rw [HU.out]; rfl, hb1⟩
set_option maxHeartbeats 1600000 in
theorem impl_AreKnown1_calls (B : Nat) (y : GScript) (us : List Value) (v : Value) (l : List GScript) (W : World) (hb : Blk W B 36 #[v]) (hr : RdW W (.s l.length (l.flatMap eScript)) v) (hy : RdLW W (eScript y) us) (hz : sizL (eScript y) ≤ 1048576) :
    Calls Try.prog 62 #[.agg us.toArray, .pointer (some ⟨B, 0, none⟩)] W fun e w' => e = .returned (.bool ((madeBy y).any (unknown l))) ∧ Below W.heap.size W w' := by
  have HCM := Lib.hid (impl_MadeBy_calls us y (W.alloc (.cells us.toArray 51)) (hy.below ((Below.refl _ _).alloc (Nat.le_refl _) _)) hz)
  obtain ⟨u1, rfl, q1⟩ := rd_eScript hy
  obtain ⟨A1, c1, rfl, -⟩ := q1.slice
  have HRL := Lib.hid hr
  have HBK := Lib.hid hb
  clear hy q1 hr hb
  go_enter Try.func62, Try.ntmps62
  go_wp2_with fail
  refine HCM.out.mono ?_
  rintro e w1 ⟨vn, fp, rfl, ho, hf, hb1⟩
  have HB1 := Lib.hid (((Below.refl W.heap.size W).alloc (Nat.le_refl _) _).trans (hb1.mono (by simp only [size_alloc]; omega)))
  have HC := Lib.hid (slices_ContainsFunc_String (unknown l) 64 #[.pointer (some ⟨B, 0, none⟩)] (enters_of Try.func64 (by kernel_rfl) rfl) vn (madeBy y) w1 ho.rdw
    (fun W2 n us2 hW hn hus => by
      obtain rfl := rd_eStr hus
      exact impl_AreKnown11_calls B n v l W2 ((HBK.out.below HB1.out).below hW) ((HRL.out.below HB1.out).below hW)))
  clear ho hf hb1
  go_wp2_with fail
  refine HC.out.mono ?_
  rintro e w2 ⟨rfl, hb2⟩
  go_wp2
  go_ret
  exact ⟨rfl, HB1.out.trans (hb2.mono HB1.out.size)⟩
set_option maxHeartbeats 800000 in
theorem impl_AreKnown_calls (v : Value) (l : List GScript) (w : World) (hr : RdW w (.s l.length (l.flatMap eScript)) v) (hz : l.length + sizL (l.flatMap eScript) ≤ 1048576) :
    Calls Try.prog 26 #[v] w fun e w' => e = .returned (.bool (areKnown l)) ∧ Below w.heap.size w w' := by
  have HC := Lib.hid (slices_ContainsFunc_Script (fun s => (madeBy s).any (unknown l)) 62 #[.pointer (some ⟨w.heap.size, 0, none⟩)] (enters_of Try.func62 (by kernel_rfl) rfl) v l (w.alloc (.cells #[v] 36)) (hr.below ((Below.refl _ _).alloc (Nat.le_refl _) _))
    (fun W y us hW hy hus => impl_AreKnown1_calls w.heap.size y us v l W ((Blk.new w _ _).below hW) ((hr.below ((Below.refl _ _).alloc (Nat.le_refl _) _)).below hW) hus (by have h := sizL_flat_le eScript l y hy; omega)))
  obtain ⟨A, c, rfl, -⟩ := hr.slice
  clear hr
  go_enter Try.func26, Try.ntmps26
  go_wp2_with fail
  refine HC.out.mono ?_
  rintro e w1 ⟨rfl, hb1⟩
  go_wp2
  go_ret
  exact ⟨rfl, ((Below.refl _ _).alloc (Nat.le_refl _) _).trans (hb1.mono (by simp only [size_alloc]; omega))⟩
set_option maxHeartbeats 3200000 in
set_option maxRecDepth 100000 in
theorem spec_AreKnown_calls (v : Value) (l : List GScript) (w : World) (hr : RdW w (.s l.length (l.flatMap eScript)) v) (hz : l.length + sizL (l.flatMap eScript) ≤ 1048576) :
    Calls Try.prog 27 #[v] w fun e w' => e = .returned (.bool (areKnown l)) ∧ Below w.heap.size w w' := by
  obtain ⟨A, c, rfl, ⟨_, _, hl⟩⟩ := hr.slice
  have HR := Lib.hid hr
  clear hr
  go_enter Try.func27, Try.ntmps27
  go_wp2
  go_loopw [3] (fun a wr => ∃ i : Nat, i ≤ l.length ∧ a = .int .i64 i ∧ Hid (Below w.heap.size w wr) ∧ Hid (∀ j y, j < i → l[j]? = some y → (madeBy y).any (unknown l) = false)) (fun a wr => l.length - (intOf a).toNat)
  case atStart => exact ⟨0, by omega, rfl, Below.refl _ _, no_start⟩
  case round =>
    obtain ⟨i, hi, rfl, HB, hno⟩ := hrel
    by_cases hlt : i < l.length
    · obtain ⟨y, hy⟩ : ∃ y, l[i]? = some y := ⟨l[i], List.getElem?_eq_getElem hlt⟩
      have hsy := sizL_flat_le eScript l y (List.mem_of_getElem? hy)
      obtain ⟨ad, u1, rfl, hab, k0, k1, q1⟩ := row_eScript (HR.out.below HB.out) hy
      obtain ⟨A1, c1, rfl, -⟩ := q1.slice
      have HCM := Lib.hid (spec_MadeBy_calls _ y wr (mkrd_eScript q1) (by omega))
      have hab' : (ad.add (i * 2)).block < wr.heap.size := by rw [block_of_add]; exact hab
      have HX := Lib.hid hy
      clear hy q1
      go_wp2_with fail
      refine HCM.out.mono ?_
      rintro e w1 ⟨vn, rfl, hn, hb1⟩
      obtain ⟨An, cn, rfl, ⟨_, _, hln⟩⟩ := hn.slice
      have HN := Lib.hid hn
      have HB1 := Lib.hid (HB.out.trans (hb1.mono HB.out.size))
      clear hn hb1 k0 k1
      obtain ⟨ns, hns⟩ : ∃ ns, ns = madeBy y := ⟨_, rfl⟩
      rw [← hns] at HN hln
      rw [← hns]
      have HNS := Lib.hid hns
      clear hns
      go_wp2
      go_loopw [5] (fun a wr => ∃ j : Nat, j ≤ ns.length ∧ a = .int .i64 j ∧ Hid (Below w.heap.size w wr) ∧ Hid (Below w1.heap.size w1 wr) ∧ Hid (∀ k n, k < j → ns[k]? = some n → unknown l n = false)) (fun a wr => ns.length - (intOf a).toNat)
      case atStart => exact ⟨0, by omega, rfl, HB1, Below.refl _ _, no_start⟩
      case round =>
        obtain ⟨j, hj, rfl, HBj, HBn, hnj⟩ := hrel
        by_cases hjl : j < ns.length
        · obtain ⟨n, hn⟩ : ∃ n, ns[j]? = some n := ⟨ns[j], List.getElem?_eq_getElem hjl⟩
          obtain ⟨an, rfl, han, z0⟩ := row_eStr (HN.out.below HBn.out) hn
          have han' : (an.add j).block < wr.heap.size := by rw [block_of_add]; exact han
          have HCF := Lib.hid (spec_FindScript_calls _ l n wr (HR.out.below HBj.out))
          have HY := Lib.hid hn
          clear hn
          obtain ⟨r, hr0⟩ : ∃ r, r = findScript l n := ⟨_, rfl⟩
          have HU : Hid (unknown l n = decide (r < 0)) := by unfold Hid unknown; rw [hr0]
          rw [← hr0] at HCF
          clear hr0
          go_wp2_with fail
          refine HCF.out.mono ?_
          rintro e w2 ⟨rfl, rfl⟩
          by_cases hneg : r < 0
          · have HA : Hid (areKnown l = false) := by
              have h1 : (madeBy y).any (unknown l) = true := by rw [← HNS.out]; exact any_hit HY.out (by rw [HU.out]; simp [hneg])
              unfold Hid areKnown
              rw [any_hit HX.out h1]; rfl
            go_wp2
            go_ret
            exact ⟨by rw [HA.out]; rfl, HBj.out⟩
          · have HN2 := Lib.hid (step_no (p := fun n : ByteArray => unknown l n = false) hnj.out HY.out (by rw [HU.out]; simp [hneg]))
            go_wp2
            go_roundw
            case rel => exact ⟨j + 1, by omega, by go_num, HBj, HBn, HN2⟩
            case measure => simp [intOf]; omega
        · have HN2 := Lib.hid (step_no (p := fun y : GScript => (madeBy y).any (unknown l) = false) hno.out HX.out (by
            rw [← HNS.out]
            exact any_miss (all_of (p := fun n : ByteArray => unknown l n = false) (fun k n hk hn => hnj.out k n (by omega) hn))))
          go_wp2
          go_roundw
          case rel => exact ⟨i + 1, by omega, by go_num, HBj, HN2⟩
          case measure => simp [intOf]; omega
    · have : i = l.length := by omega
      subst this
      have HA : Hid (areKnown l = true) := by
        unfold Hid areKnown
        rw [any_miss (all_of (p := fun y : GScript => (madeBy y).any (unknown l) = false) hno.out)]; rfl
      go_wp2
      go_ret
      exact ⟨by rw [HA.out]; rfl, HB.out⟩

end Go.Proofs.Ytiohoeafdaihpaa
