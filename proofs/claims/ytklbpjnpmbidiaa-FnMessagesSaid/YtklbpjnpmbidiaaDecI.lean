import Derived.Test.YtklbpjnpmbidiaaProg
import Derived.Test.YtklbpjnpmbidiaaTypes
import Derived.StillTailTactics
import Derived.Deep.RegionHeld3
import Derived.Laws.IdiomStrings
import Derived.Test.YtklbpjnpmbidiaaAppend
import Derived.Laws.StructEq
import Derived.Lib.SliceRun
import Derived.Shelf.RegionOpenPlain
import Derived.Test.YtklbpjnpmbidiaaDec
namespace Go.Proofs.Ytklbpjnpmbidiaa
open Go.RowKit
set_option linter.unusedVariables false
set_option linter.unusedSimpArgs false

set_option maxHeartbeats 3200000 in
set_option maxRecDepth 100000 in
theorem spec_DecodeInts_calls (v : Value) (b : List UInt8) (at_ cnt : Nat) (w : World) (hr : RdW w (.s b.length (b.flatMap eByte)) v) (hz : b.length ≤ 1048576) (hat : at_ ≤ b.length) (hc : cnt ≤ 100) :
    Calls Try.prog 21 #[v, .int .i64 at_, .int .i64 cnt] w fun e w' => Below w.heap.size w w' ∧ ((rdInts cnt (b.drop at_) = none ∧ ∃ v0, e = .returned (.tuple #[v0, .int .i64 0, .bool false])) ∨
      ∃ (xs : List Nat) (p : Nat) (A' : Option Addr) (c' : Nat), rdInts cnt (b.drop at_) = some (xs, p - at_) ∧ xs.length = cnt ∧ at_ ≤ p ∧ p ≤ b.length ∧ (∀ x, x ∈ xs → x ≤ 1000000000000) ∧ e = .returned (.tuple #[.slice A' cnt c', .int .i64 p, .bool true]) ∧ w'.ownsRow w.heap.size 3 1 (.slice A' cnt c') cnt ((toI xs).flatMap vsInt)) := by
  obtain ⟨A, c, rfl, ⟨hcl, hcm, hl⟩⟩ := hr.slice
  have HR := Lib.hid hr
  clear hr
  have HI1 : Hid (inR (cnt : Int) 0 100 = true) := by unfold Hid inR; simp; omega
  have HI2 : Hid (inR (at_ : Int) 0 (b.length : Int) = true) := by unfold Hid inR; simp; omega
  go_enter Try.func21, Try.ntmps21
  go_wp2_with fail
  refine (spec_l1In_calls _ _ _ _).mono ?_
  rintro e w1 ⟨rfl, hw1⟩
  rw [HI1.out]
  have HW1 := Lib.hid hw1
  clear hw1
  have HB1 : Hid (Below w.heap.size w w1) := by unfold Hid; rw [HW1.out]; exact (Below.refl _ _).alloc (Nat.le_refl _) _
  go_wp2_with fail
  refine (spec_l1In_calls _ _ _ _).mono ?_
  rintro e w2 ⟨rfl, hw2⟩
  rw [HI2.out]
  have hw2 := hw2.symm
  subst hw2
  go_wp2
  go_loopw [1, 9, 10] (fun a b_ c_ wr => ∃ (i p : Nat) (xs : List Nat) (A' : Option Addr) (c' : Nat), i ≤ cnt ∧ p ≤ b.length ∧ a = .int .i64 p ∧ b_ = .slice A' i c' ∧ c_ = .int .i64 i ∧ Hid (Rdi b at_ cnt i p xs) ∧ Hid (∀ x, x ∈ xs → x ≤ 1000000000000) ∧ Hid (wr.ownsRow w.heap.size 3 1 (.slice A' i c') i ((toI xs).flatMap vsInt)) ∧ Hid (Below w.heap.size w wr)) (fun a b_ c_ wr => cnt - (intOf c_).toNat)
  case atStart => exact ⟨0, at_, [], _, _, by omega, hat, rfl, rfl, rfl, Rdi.start _ _ _, by simp [Hid], (by unfold Hid; rw [HW1.out]; exact ownsRow_made' rfl (Nat.le_refl _)), HB1.out⟩
  case round =>
    obtain ⟨i, p, xs, A', c', hi, hp, rfl, rfl, rfl, HRI, HX, HO, HB⟩ := hrel
    by_cases hlt : i < cnt
    · have HC := spec_ReadUvarint_calls (.slice A b.length c) b p wr (HR.out.below HB.out) hz hp
      cases hu : rdUv 0 0 (b.drop p) with
      | none =>
        rw [hu] at HC
        simp only [uvR] at HC
        have HN := Lib.hid (HRI.out.bad hlt hu)
        have HCC := Lib.hid HC
        clear HC hu
        go_wp2_with fail
        refine HCC.out.mono ?_
        rintro e w3 ⟨rfl, hw3⟩
        have hw3 := hw3.symm
        subst hw3
        go_wp2
        refine bodyPost_ret (v := .tuple #[.slice (some ⟨wr.heap.size, 0, none⟩) 0 0, .int .i64 0, .bool false]) (by simp [results, Try.results21, go_sem]) rfl ⟨HB.out.alloc HB.out.size _, .inl ⟨HN.out, _, rfl⟩⟩
      | some q =>
        obtain ⟨x, m⟩ := q
        have hat := rdUv_at hu
        rw [List.length_drop] at hat
        rw [hu] at HC
        simp only [uvR] at HC
        have HRJ := Lib.hid (HRI.out.step hlt hu)
        obtain ⟨p1, hp1⟩ : ∃ p1, p1 = p + m := ⟨_, rfl⟩
        rw [← hp1] at HRJ HC
        have hp1l : p1 ≤ b.length := by omega
        have hx : x ≤ 1000000000000 := hat.2.2
        have HCC := Lib.hid HC
        have hlo := HO.out.lt
        clear HC hu hat hp1
        go_wp2_with fail
        refine HCC.out.mono ?_
        rintro e w3 ⟨rfl, hw3⟩
        have hw3 := hw3.symm
        subst hw3
        go_wp2_with (at_builtin; refine wpList_append_rd rfl _ _ 41 rfl (w.heap.size) 3 _ _ 1 8 Try.underlying41 rfl rfl rfl rfl rfl (by omega) _ i _ rfl (HO.out.alloc _) vals_eInt [(x : Int)] (one_eInt _) (lenv_eInt _) _ _ rfl (rdW_one vals_eInt wr (x : Int) 3) (by simp; omega) (by omega) (by have := HB.out.size; simp; omega) ?_)
        intro A2 c2 w4 hown hgrow
        have HB4 := Lib.hid ((HB.out.alloc HB.out.size _).trans (grown_below hgrow (by have := HB.out.size; simp; omega) (fun k hk => (hlo k hk).1)))
        have HO4 : Hid (w4.ownsRow w.heap.size 3 1 (.slice A2 (i + 1) c2) (i + 1) ((toI (xs ++ [x])).flatMap vsInt)) := by
          unfold Hid toI; rw [List.map_append, List.flatMap_append]; exact hown
        have HX4 : Hid (∀ y, y ∈ xs ++ [x] → y ≤ 1000000000000) := by
          intro y hy
          rcases List.mem_append.1 hy with hy | hy
          · exact HX.out y hy
          · rw [List.mem_singleton.1 hy]; exact hx
        clear hown hgrow hlo
        go_wp2
        go_roundw
        case rel => exact ⟨i + 1, p1, xs ++ [x], A2, c2, by omega, hp1l, rfl, rfl, by go_num, HRJ, HX4, HO4, HB4⟩
        case measure => simp [intOf]; omega
    · have : i = cnt := by omega
      subst this
      go_wp2
      refine bodyPost_ret (v := .tuple #[.slice A' i c', .int .i64 p, .bool true]) (by simp [results, Try.results21, go_sem]) rfl ⟨HB.out, .inr ⟨xs, p, A', c', HRI.out.done, HRI.out.2.1, HRI.out.1, hp, HX.out, rfl, HO.out⟩⟩
set_option maxHeartbeats 3200000 in
set_option maxRecDepth 100000 in
theorem impl_DecodeInts_calls (v : Value) (b : List UInt8) (at_ cnt : Nat) (w : World) (hr : RdW w (.s b.length (b.flatMap eByte)) v) (hz : b.length ≤ 1048576) (hat : at_ ≤ b.length) (hc : cnt ≤ 100) :
    Calls Try.prog 23 #[v, .int .i64 at_, .int .i64 cnt] w fun e w' => Below w.heap.size w w' ∧ ((rdInts cnt (b.drop at_) = none ∧ ∃ v0, e = .returned (.tuple #[v0, .int .i64 0, .bool false])) ∨
      ∃ (xs : List Nat) (p : Nat) (A' : Option Addr) (c' : Nat), rdInts cnt (b.drop at_) = some (xs, p - at_) ∧ xs.length = cnt ∧ at_ ≤ p ∧ p ≤ b.length ∧ (∀ x, x ∈ xs → x ≤ 1000000000000) ∧ e = .returned (.tuple #[.slice A' cnt c', .int .i64 p, .bool true]) ∧ w'.ownsRow w.heap.size 3 1 (.slice A' cnt c') cnt ((toI xs).flatMap vsInt)) := by
  obtain ⟨A, c, rfl, ⟨hcl, hcm, hl⟩⟩ := hr.slice
  have HR := Lib.hid hr
  clear hr
  have HI1 : Hid (inR (cnt : Int) 0 100 = true) := by unfold Hid inR; simp; omega
  have HI2 : Hid (inR (at_ : Int) 0 (b.length : Int) = true) := by unfold Hid inR; simp; omega
  go_enter Try.func23, Try.ntmps23
  go_wp2_with fail
  refine (impl_in_calls _ _ _ _).mono ?_
  rintro e w1 ⟨rfl, hw1⟩
  rw [HI1.out]
  have HW1 := Lib.hid hw1
  clear hw1
  have HB1 : Hid (Below w.heap.size w w1) := by unfold Hid; rw [HW1.out]; exact Below.refl _ _
  go_wp2_with fail
  refine (impl_in_calls _ _ _ _).mono ?_
  rintro e w2 ⟨rfl, hw2⟩
  rw [HI2.out]
  have hw2 := hw2.symm
  subst hw2
  go_wp2
  go_loopw [1, 9, 25] (fun a b_ c_ wr => ∃ (i p : Nat) (xs : List Nat) (A' : Option Addr) (c' : Nat), i ≤ cnt ∧ p ≤ b.length ∧ a = .int .i64 p ∧ b_ = .slice A' i c' ∧ c_ = .int .i64 i ∧ Hid (Rdi b at_ cnt i p xs) ∧ Hid (∀ x, x ∈ xs → x ≤ 1000000000000) ∧ Hid (wr.ownsRow w.heap.size 3 1 (.slice A' i c') i ((toI xs).flatMap vsInt)) ∧ Hid (Below w.heap.size w wr)) (fun a b_ c_ wr => cnt - (intOf c_).toNat)
  case atStart => exact ⟨0, at_, [], _, _, by omega, hat, rfl, rfl, rfl, Rdi.start _ _ _, by simp [Hid], (by unfold Hid; rw [HW1.out]; exact ownsRow_made' rfl (Nat.le_refl _)), HB1.out.alloc HB1.out.size _⟩
  case round =>
    obtain ⟨i, p, xs, A', c', hi, hp, rfl, rfl, rfl, HRI, HX, HO, HB⟩ := hrel
    by_cases hlt : i < cnt
    · have HC := impl_ReadUvarint_calls (.slice A b.length c) b p wr (HR.out.below HB.out) hz hp
      cases hu : rdUv 0 0 (b.drop p) with
      | none =>
        rw [hu] at HC
        simp only [uvR] at HC
        have HN := Lib.hid (HRI.out.bad hlt hu)
        have HCC := Lib.hid HC
        clear HC hu
        go_wp2_with fail
        refine HCC.out.mono ?_
        rintro e w3 ⟨rfl, hw3⟩
        have hw3 := hw3.symm
        subst hw3
        go_wp2
        refine bodyPost_ret (v := .tuple #[.slice none 0 0, .int .i64 0, .bool false]) (by simp [results, Try.results23, go_sem]) rfl ⟨HB.out, .inl ⟨HN.out, _, rfl⟩⟩
      | some q =>
        obtain ⟨x, m⟩ := q
        have hat := rdUv_at hu
        rw [List.length_drop] at hat
        rw [hu] at HC
        simp only [uvR] at HC
        have HRJ := Lib.hid (HRI.out.step hlt hu)
        obtain ⟨p1, hp1⟩ : ∃ p1, p1 = p + m := ⟨_, rfl⟩
        rw [← hp1] at HRJ HC
        have hp1l : p1 ≤ b.length := by omega
        have hx : x ≤ 1000000000000 := hat.2.2
        have HCC := Lib.hid HC
        have hlo := HO.out.lt
        clear HC hu hat hp1
        go_wp2_with fail
        refine HCC.out.mono ?_
        rintro e w3 ⟨rfl, hw3⟩
        have hw3 := hw3.symm
        subst hw3
        go_wp2_with (at_builtin; refine wpList_append_rd rfl _ _ 41 rfl (w.heap.size) 3 _ _ 1 8 Try.underlying41 rfl rfl rfl rfl rfl (by omega) _ i _ rfl (HO.out.alloc _) vals_eInt [(x : Int)] (one_eInt _) (lenv_eInt _) _ _ rfl (rdW_one vals_eInt wr (x : Int) 3) (by simp; omega) (by omega) (by have := HB.out.size; simp; omega) ?_)
        intro A2 c2 w4 hown hgrow
        have HB4 := Lib.hid ((HB.out.alloc HB.out.size _).trans (grown_below hgrow (by have := HB.out.size; simp; omega) (fun k hk => (hlo k hk).1)))
        have HO4 : Hid (w4.ownsRow w.heap.size 3 1 (.slice A2 (i + 1) c2) (i + 1) ((toI (xs ++ [x])).flatMap vsInt)) := by
          unfold Hid toI; rw [List.map_append, List.flatMap_append]; exact hown
        have HX4 : Hid (∀ y, y ∈ xs ++ [x] → y ≤ 1000000000000) := by
          intro y hy
          rcases List.mem_append.1 hy with hy | hy
          · exact HX.out y hy
          · rw [List.mem_singleton.1 hy]; exact hx
        clear hown hgrow hlo
        go_wp2
        go_roundw
        case rel => exact ⟨i + 1, p1, xs ++ [x], A2, c2, by omega, hp1l, rfl, rfl, by go_num, HRJ, HX4, HO4, HB4⟩
        case measure => simp [intOf]; omega
    · have : i = cnt := by omega
      subst this
      go_wp2
      refine bodyPost_ret (v := .tuple #[.slice A' i c', .int .i64 p, .bool true]) (by simp [results, Try.results23, go_sem]) rfl ⟨HB.out, .inr ⟨xs, p, A', c', HRI.out.done, HRI.out.2.1, HRI.out.1, hp, HX.out, rfl, HO.out⟩⟩
/-- a part of a slice reads the part of what it read -/
theorem rdW_sub {α : Type} {en : α → List Lf} {vs : α → List Value} (hv : ∀ x, en x = (vs x).map Lf.v) (hs : ∀ x, (vs x).length = 1) {w : World} {xs : List α} {ad : Addr} {c p n : Nat} (h : RdW w (.s xs.length (xs.flatMap en)) (.slice (some ad) xs.length c)) (hp : p + n ≤ xs.length) :
    RdW w (.s ((xs.drop p).take n).length (((xs.drop p).take n).flatMap en)) (.slice (some (ad.add p)) ((xs.drop p).take n).length (c - p)) := by
  have hl : ((xs.drop p).take n).length = n := by rw [List.length_take, List.length_drop]; omega
  obtain ⟨A', c', e, hcc⟩ := h.slice
  injection e with e1 e2 e3
  have hle := hcc.le
  have hcp := hcc.cap
  have hlm := hcc.lim
  have hflat := flat_vals hv ((xs.drop p).take n)
  have hall : ∀ ys : List α, (ys.flatMap vs).length = ys.length := by
    intro ys
    induction ys with
    | nil => rfl
    | cons y ys ih => rw [List.flatMap_cons, List.length_append, ih, hs, List.length_cons]; omega
  have hcells := h.cells hv
  rw [RdW, Rd]
  refine ⟨_, _, rfl, ⟨by omega, by omega, by omega⟩, ?_⟩
  by_cases hn : n = 0
  · exact .inl (by omega)
  · rcases hcells with h0 | ⟨ad', e, hb, hc⟩
    · omega
    · injection e with e; subst e
      refine .inr ⟨_, ((xs.drop p).take n).flatMap vs, rfl, by rw [block_of_add]; exact hb, fun k x hk => ?_, by rw [hflat]; exact rdL_plain _ _ _⟩
      rw [addr_add_add]
      apply hc
      have hkl := (List.getElem?_eq_some_iff.1 hk).1
      rw [hall, hl] at hkl
      have hsplit : xs.flatMap vs = (xs.take p).flatMap vs ++ (((xs.drop p).take n).flatMap vs ++ ((xs.drop p).drop n).flatMap vs) := by
        rw [← List.flatMap_append, ← List.flatMap_append, List.take_append_drop, List.take_append_drop]
      rw [hsplit, List.getElem?_append_right (by rw [hall, List.length_take]; omega), hall, List.length_take, Nat.min_eq_left (by omega), Nat.add_sub_cancel_left, List.getElem?_append_left (by rw [hall, hl]; exact hkl)]
      exact hk
set_option maxHeartbeats 3200000 in
set_option maxRecDepth 100000 in
theorem spec_ReadBytes_calls (v : Value) (b : List UInt8) (at_ : Nat) (most : Nat) (w : World) (hr : RdW w (.s b.length (b.flatMap eByte)) v) (hz : b.length ≤ 1048576) (hat : at_ ≤ b.length) (hmost : most ≤ 100) :
    Calls Try.prog 22 #[v, .int .i64 at_, .int .i64 most] w fun e w' => Below w.heap.size w w' ∧ ((rdBytes (b.drop at_) most = none ∧ ∃ A0 c0, e = .returned (.tuple #[.slice A0 0 c0, .int .i64 0, .bool false]) ∧ w'.ownsRow w.heap.size 5 1 (.slice A0 0 c0) 0 []) ∨
      ∃ (name : List UInt8) (m : Nat) (A' : Option Addr) (c' : Nat), rdBytes (b.drop at_) most = some (name, m) ∧ name.length ≤ most ∧ at_ + m ≤ b.length ∧ e = .returned (.tuple #[.slice A' name.length c', .int .i64 ((at_ + m : Nat) : Int), .bool true]) ∧ w'.ownsRow w.heap.size 5 1 (.slice A' name.length c') name.length (name.flatMap vsByte)) := by
  have HC := spec_ReadUvarint_calls v b at_ w hr hz hat
  obtain ⟨A, c, rfl, ⟨hcl, hcm, hl⟩⟩ := hr.slice
  have HR := Lib.hid hr
  clear hr
  cases hu : rdUv 0 0 (b.drop at_) with
  | none =>
    have HN : Hid (rdBytes (b.drop at_) most = none) := by unfold Hid rdBytes; rw [hu]
    rw [hu] at HC
    simp only [uvR] at HC
    have HCC := Lib.hid HC
    clear HC hu
    go_enter Try.func22, Try.ntmps22
    go_wp2_with fail
    refine HCC.out.mono ?_
    rintro e w3 ⟨rfl, hw3⟩
    have hw3 := hw3.symm
    subst hw3
    go_wp2
    refine bodyPost_ret (v := .tuple #[.slice (some ⟨w.heap.size, 0, none⟩) 0 0, .int .i64 0, .bool false]) (by simp [results, Try.results22, go_sem]) rfl ⟨(Below.refl _ _).alloc (Nat.le_refl _) _, .inl ⟨HN.out, _, _, rfl, ownsRow_made' rfl (Nat.le_refl _)⟩⟩
  | some q =>
    obtain ⟨n, m⟩ := q
    have hua := rdUv_at hu
    rw [List.length_drop] at hua
    rw [hu] at HC
    simp only [uvR] at HC
    obtain ⟨p, hp⟩ : ∃ p, p = at_ + m := ⟨_, rfl⟩
    rw [← hp] at HC
    have hpl : p ≤ b.length := by omega
    have hn : n ≤ 1000000000000 := hua.2.2
    have HCC := Lib.hid HC
    clear HC
    by_cases hbig : (most : Int) < n
    · have HN : Hid (rdBytes (b.drop at_) most = none) := by unfold Hid rdBytes; rw [hu]; simp only; rw [if_pos (.inl hbig)]
      clear hu hua hp
      go_enter Try.func22, Try.ntmps22
      go_wp2_with fail
      refine HCC.out.mono ?_
      rintro e w3 ⟨rfl, hw3⟩
      have hw3 := hw3.symm
      subst hw3
      go_wp2
      refine bodyPost_ret (v := .tuple #[.slice (some ⟨w.heap.size, 0, none⟩) 0 0, .int .i64 0, .bool false]) (by simp [results, Try.results22, go_sem]) rfl ⟨(Below.refl _ _).alloc (Nat.le_refl _) _, .inl ⟨HN.out, _, _, rfl, ownsRow_made' rfl (Nat.le_refl _)⟩⟩
    · by_cases hlong : (b.length : Int) - p < n
      · have HN : Hid (rdBytes (b.drop at_) most = none) := by unfold Hid rdBytes; rw [hu]; simp only; rw [if_pos (.inr (by rw [List.length_drop]; omega))]
        clear hu hua hp
        go_enter Try.func22, Try.ntmps22
        go_wp2_with fail
        refine HCC.out.mono ?_
        rintro e w3 ⟨rfl, hw3⟩
        have hw3 := hw3.symm
        subst hw3
        go_wp2
        refine bodyPost_ret (v := .tuple #[.slice (some ⟨w.heap.size, 0, none⟩) 0 0, .int .i64 0, .bool false]) (by simp [results, Try.results22, go_sem]) rfl ⟨(Below.refl _ _).alloc (Nat.le_refl _) _, .inl ⟨HN.out, _, _, rfl, ownsRow_made' rfl (Nat.le_refl _)⟩⟩
      · obtain ⟨name, hname⟩ : ∃ name, name = (b.drop p).take n := ⟨_, rfl⟩
        have HS : Hid (rdBytes (b.drop at_) most = some (name, m + n)) := by
          unfold Hid rdBytes; rw [hu]; simp only; rw [if_neg (by rw [List.length_drop]; omega), List.drop_drop, ← hp, ← hname]
        have hnl : name.length = n := by rw [hname, List.length_take, List.length_drop]; omega
        have hP := Lib.hid hp
        obtain ⟨x0, hx0⟩ : ∃ x, b[0]? = some x := ⟨b[0], List.getElem?_eq_getElem (by omega)⟩
        obtain ⟨ad, rfl, -, -⟩ := row_eByte HR.out hx0
        have HP' : Hid ((b.drop p).take n = name) := hname.symm
        subst hnl
        have hmn : at_ + (m + name.length) ≤ b.length := by omega
        clear hu hua hx0 hp hname
        by_cases hpc : p = c
        · have hn0 : name.length = 0 := by omega
          obtain rfl := List.eq_nil_of_length_eq_zero hn0
          clear hn0
          rw [List.length_nil] at HCC hmn
          have HSUB : Hid (RdW w (.s ([] : List UInt8).length (([] : List UInt8).flatMap eByte)) (.slice (some ad) 0 0)) := by
            unfold Hid
            rw [RdW, Rd]; exact ⟨_, _, rfl, slOk_none, .inl rfl⟩
          go_enter Try.func22, Try.ntmps22
          go_wp2_with fail
          refine HCC.out.mono ?_
          rintro e w3 ⟨rfl, hw3⟩
          have hw3 := hw3.symm
          subst hw3
          go_wp2
          refine bodyPost_ret (v := .tuple #[.slice (some ⟨w.heap.size, 0, none⟩) 0 0, .int .i64 (c : Int), .bool true]) (by simp [results, Try.results22, go_sem]) rfl ⟨(Below.refl _ _).alloc (Nat.le_refl _) _, .inr ⟨[], m, _, _, HS.out, by simp, by omega, by rw [← hpc, hP.out]; rfl, ownsRow_made' rfl (Nat.le_refl _)⟩⟩
        · have HSUB : Hid (RdW w (.s name.length (name.flatMap eByte)) (.slice (some (ad.add p)) name.length (c - p))) := by
            unfold Hid
            have h := rdW_sub (xs := b) (p := p) (n := name.length) vals_eByte (fun _ => rfl) HR.out (by omega)
            rw [HP'.out] at h
            exact h
          go_enter Try.func22, Try.ntmps22
          go_wp2_with fail
          refine HCC.out.mono ?_
          rintro e w3 ⟨rfl, hw3⟩
          have hw3 := hw3.symm
          subst hw3
          go_wp2_with (at_builtin; (try rw [Nat.add_sub_cancel_left]); refine wpList_copy_rd rfl _ _ 22 rfl (w.heap.size) 5 _ _ 1 1 Try.underlying22 rfl rfl rfl rfl rfl (by omega) _ rfl (ownsRow_made' rfl (Nat.le_refl _)) vals_eByte name (one_eByte name) (lenv_eByte name) _ _ rfl (HSUB.out.alloc _) (by omega) (by omega) (by simp) ?_)
          intro A1 c1 w1 ho1 hg1
          have HO1 := Lib.hid ho1
          have HB1 := Lib.hid (((Below.refl w.heap.size w).alloc (Nat.le_refl _) _).trans (grown_below hg1 (by simp) (by intro k hk; simp [Value.ownBlock] at hk; omega)))
          clear ho1 hg1
          go_wp2
          refine bodyPost_ret (v := .tuple #[.slice A1 name.length c1, .int .i64 ((p : Int) + name.length), .bool true]) (by simp [results, Try.results22, go_sem]) rfl ⟨HB1.out, .inr ⟨name, m + name.length, A1, c1, HS.out, by omega, hmn, by rw [hP.out]; push_cast; rw [Int.add_assoc], HO1.out⟩⟩
set_option maxHeartbeats 3200000 in
set_option maxRecDepth 100000 in
theorem impl_ReadBytes_calls (v : Value) (b : List UInt8) (at_ : Nat) (most : Nat) (w : World) (hr : RdW w (.s b.length (b.flatMap eByte)) v) (hz : b.length ≤ 1048576) (hat : at_ ≤ b.length) (hmost : most ≤ 100) :
    Calls Try.prog 25 #[v, .int .i64 at_, .int .i64 most] w fun e w' => Below w.heap.size w w' ∧ ((rdBytes (b.drop at_) most = none ∧ ∃ A0 c0, e = .returned (.tuple #[.slice A0 0 c0, .int .i64 0, .bool false]) ∧ w'.ownsRow w.heap.size 5 1 (.slice A0 0 c0) 0 []) ∨
      ∃ (name : List UInt8) (m : Nat) (A' : Option Addr) (c' : Nat), rdBytes (b.drop at_) most = some (name, m) ∧ name.length ≤ most ∧ at_ + m ≤ b.length ∧ e = .returned (.tuple #[.slice A' name.length c', .int .i64 ((at_ + m : Nat) : Int), .bool true]) ∧ w'.ownsRow w.heap.size 5 1 (.slice A' name.length c') name.length (name.flatMap vsByte)) := by
  have HC := impl_ReadUvarint_calls v b at_ w hr hz hat
  obtain ⟨A, c, rfl, ⟨hcl, hcm, hl⟩⟩ := hr.slice
  have HR := Lib.hid hr
  clear hr
  cases hu : rdUv 0 0 (b.drop at_) with
  | none =>
    have HN : Hid (rdBytes (b.drop at_) most = none) := by unfold Hid rdBytes; rw [hu]
    rw [hu] at HC
    simp only [uvR] at HC
    have HCC := Lib.hid HC
    clear HC hu
    go_enter Try.func25, Try.ntmps25
    go_wp2_with fail
    refine HCC.out.mono ?_
    rintro e w3 ⟨rfl, hw3⟩
    have hw3 := hw3.symm
    subst hw3
    go_wp2
    refine bodyPost_ret (v := .tuple #[.slice none 0 0, .int .i64 0, .bool false]) (by simp [results, Try.results25, go_sem]) rfl ⟨Below.refl _ _, .inl ⟨HN.out, _, _, rfl, World.ownsRow_nil _ _ _ _⟩⟩
  | some q =>
    obtain ⟨n, m⟩ := q
    have hua := rdUv_at hu
    rw [List.length_drop] at hua
    rw [hu] at HC
    simp only [uvR] at HC
    obtain ⟨p, hp⟩ : ∃ p, p = at_ + m := ⟨_, rfl⟩
    rw [← hp] at HC
    have hpl : p ≤ b.length := by omega
    have hn : n ≤ 1000000000000 := hua.2.2
    have HCC := Lib.hid HC
    clear HC
    by_cases hbig : (most : Int) < n
    · have HN : Hid (rdBytes (b.drop at_) most = none) := by unfold Hid rdBytes; rw [hu]; simp only; rw [if_pos (.inl hbig)]
      clear hu hua hp
      go_enter Try.func25, Try.ntmps25
      go_wp2_with fail
      refine HCC.out.mono ?_
      rintro e w3 ⟨rfl, hw3⟩
      have hw3 := hw3.symm
      subst hw3
      go_wp2
      refine bodyPost_ret (v := .tuple #[.slice none 0 0, .int .i64 0, .bool false]) (by simp [results, Try.results25, go_sem]) rfl ⟨Below.refl _ _, .inl ⟨HN.out, _, _, rfl, World.ownsRow_nil _ _ _ _⟩⟩
    · by_cases hlong : (b.length : Int) - p < n
      · have HN : Hid (rdBytes (b.drop at_) most = none) := by unfold Hid rdBytes; rw [hu]; simp only; rw [if_pos (.inr (by rw [List.length_drop]; omega))]
        clear hu hua hp
        go_enter Try.func25, Try.ntmps25
        go_wp2_with fail
        refine HCC.out.mono ?_
        rintro e w3 ⟨rfl, hw3⟩
        have hw3 := hw3.symm
        subst hw3
        go_wp2
        refine bodyPost_ret (v := .tuple #[.slice none 0 0, .int .i64 0, .bool false]) (by simp [results, Try.results25, go_sem]) rfl ⟨Below.refl _ _, .inl ⟨HN.out, _, _, rfl, World.ownsRow_nil _ _ _ _⟩⟩
      · obtain ⟨name, hname⟩ : ∃ name, name = (b.drop p).take n := ⟨_, rfl⟩
        have HS : Hid (rdBytes (b.drop at_) most = some (name, m + n)) := by
          unfold Hid rdBytes; rw [hu]; simp only; rw [if_neg (by rw [List.length_drop]; omega), List.drop_drop, ← hp, ← hname]
        have hnl : name.length = n := by rw [hname, List.length_take, List.length_drop]; omega
        have hP := Lib.hid hp
        obtain ⟨x0, hx0⟩ : ∃ x, b[0]? = some x := ⟨b[0], List.getElem?_eq_getElem (by omega)⟩
        obtain ⟨ad, rfl, -, -⟩ := row_eByte HR.out hx0
        have HP' : Hid ((b.drop p).take n = name) := hname.symm
        subst hnl
        have hmn : at_ + (m + name.length) ≤ b.length := by omega
        clear hu hua hx0 hp hname
        by_cases hpc : p = c
        · have hn0 : name.length = 0 := by omega
          obtain rfl := List.eq_nil_of_length_eq_zero hn0
          clear hn0
          rw [List.length_nil] at HCC hmn
          have HSUB : Hid (RdW w (.s ([] : List UInt8).length (([] : List UInt8).flatMap eByte)) (.slice (some ad) 0 0)) := by
            unfold Hid
            rw [RdW, Rd]; exact ⟨_, _, rfl, slOk_none, .inl rfl⟩
          go_enter Try.func25, Try.ntmps25
          go_wp2_with fail
          refine HCC.out.mono ?_
          rintro e w3 ⟨rfl, hw3⟩
          have hw3 := hw3.symm
          subst hw3
          have HCL := Lib.hid (slices_Clone_Byte_row _ [] w HSUB.out (by simp))
          go_wp2_with fail
          refine HCL.out.mono ?_
          rintro e w1 ⟨A1, c1, rfl, ho1, hb1⟩
          have HO1 := Lib.hid ho1
          have HB1 := Lib.hid hb1
          clear ho1 hb1
          go_wp2
          refine bodyPost_ret (v := .tuple #[.slice A1 0 c1, .int .i64 (c : Int), .bool true]) (by simp [results, Try.results25, go_sem]) rfl ⟨HB1.out, .inr ⟨[], m, A1, c1, HS.out, by simp, by omega, by rw [← hpc, hP.out]; rfl, HO1.out⟩⟩
        · have HSUB : Hid (RdW w (.s name.length (name.flatMap eByte)) (.slice (some (ad.add p)) name.length (c - p))) := by
            unfold Hid
            have h := rdW_sub (xs := b) (p := p) (n := name.length) vals_eByte (fun _ => rfl) HR.out (by omega)
            rw [HP'.out] at h
            exact h
          go_enter Try.func25, Try.ntmps25
          go_wp2_with fail
          refine HCC.out.mono ?_
          rintro e w3 ⟨rfl, hw3⟩
          have hw3 := hw3.symm
          subst hw3
          have HCL := Lib.hid (slices_Clone_Byte_row _ name w HSUB.out (by omega))
          go_wp2_with fail
          (try rw [Nat.add_sub_cancel_left])
          refine HCL.out.mono ?_
          rintro e w1 ⟨A1, c1, rfl, ho1, hb1⟩
          have HO1 := Lib.hid ho1
          have HB1 := Lib.hid hb1
          clear ho1 hb1
          go_wp2
          refine bodyPost_ret (v := .tuple #[.slice A1 name.length c1, .int .i64 ((p : Int) + name.length), .bool true]) (by simp [results, Try.results25, go_sem]) rfl ⟨HB1.out, .inr ⟨name, m + name.length, A1, c1, HS.out, by omega, hmn, by rw [hP.out]; push_cast; rw [Int.add_assoc], HO1.out⟩⟩

end Go.Proofs.Ytklbpjnpmbidiaa
