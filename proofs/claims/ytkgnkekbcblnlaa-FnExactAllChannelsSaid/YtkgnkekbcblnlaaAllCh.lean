import Derived.Test.YtkgnkekbcblnlaaProg
import Derived.Test.YtkgnkekbcblnlaaTypes
import Derived.StillTailTactics
import Derived.Deep.RegionHeld3
import Derived.Laws.IdiomStrings
import Derived.Test.YtkgnkekbcblnlaaAppend
import Derived.Laws.StructEq
import Derived.Lib.SliceRun
import Derived.Shelf.RegionOpenPlain
import Derived.Test.YtkgnkekbcblnlaaCommon
namespace Go.Proofs.Ytkgnkekbcblnlaa
open Go.RowKit
set_option linter.unusedVariables false
set_option linter.unusedSimpArgs false

def vsCh (p : Int × Int) : List Value := [.int .i64 p.1, .int .i64 p.2, .slice none 0 0]
def eCh (p : Int × Int) : List Lf := (vsCh p).map Lf.v
theorem vals_eCh (p : Int × Int) : eCh p = (vsCh p).map Lf.v := rfl
theorem one_eCh (xs : List (Int × Int)) : ∀ u, u ∈ xs.flatMap vsCh → u.oneCell' = true := by
  intro u hu
  obtain ⟨x, _, hx⟩ := List.mem_flatMap.1 hu
  simp only [vsCh, List.mem_cons, List.not_mem_nil, or_false] at hx
  rcases hx with rfl | rfl | rfl <;> rfl
theorem lenv_eCh (xs : List (Int × Int)) : (xs.flatMap vsCh).length = xs.length * 3 := by
  induction xs with
  | nil => simp
  | cons x xs ih => simp [ih, vsCh, Nat.succ_mul] <;> omega
def chP (p : Int × Int) : GChannel := ⟨p.1, p.2, []⟩
/-- the channels from one vat, as far as a number -/
def rowCh (a b : Nat) : List (Int × Int) := ((List.range b).filter fun j => !(j == a)).map fun j : Nat => ((a : Int) + 1, (j : Int) + 1)
def allCh (n i : Nat) : List (Int × Int) := (List.range i).flatMap fun a => rowCh a n
theorem rowCh_yes (a b : Nat) (h : ¬ b = a) : rowCh a (b + 1) = rowCh a b ++ [((a : Int) + 1, (b : Int) + 1)] := by
  unfold rowCh; rw [List.range_succ, List.filter_append]; simp [h]
theorem rowCh_no (a : Nat) : rowCh a (a + 1) = rowCh a a := by
  unfold rowCh; rw [List.range_succ, List.filter_append]; simp
theorem allCh_step (n i : Nat) : allCh n (i + 1) = allCh n i ++ rowCh i n := by
  unfold allCh; rw [List.range_succ, List.flatMap_append]; simp
theorem rowCh_len (a b : Nat) : (rowCh a b).length ≤ b := by
  unfold rowCh; rw [List.length_map]; have := List.length_filter_le (fun j => !(j == a)) (List.range b); rwa [List.length_range] at this
theorem allCh_len (n i : Nat) : (allCh n i).length ≤ i * n := by
  induction i with
  | zero => simp [allCh]
  | succ i ih => rw [allCh_step, List.length_append, Nat.succ_mul]; have := rowCh_len i n; omega
theorem allCh_small (n i j : Nat) (hn : n ≤ 4) (hi : i < n) (hj : j ≤ n) : (allCh n i ++ rowCh i j).length ≤ 16 := by
  rw [List.length_append]
  have h1 := allCh_len n i
  have h2 := rowCh_len i j
  have h3 : i * n + n ≤ 4 * 4 := by rw [← Nat.succ_mul]; exact Nat.mul_le_mul (by omega) hn
  omega
def allChannels (n : Int) : List GChannel := if inR n 1 4 = true then (allCh n.toNat n.toNat).map chP else []
theorem own_swap {w : World} {n : Nat} {ls ls' : List Lf} {v : Value} {fp : List Nat} (h : ∀ us fp, OwnL w ls us fp → OwnL w ls' us fp) (ho : Own w (.s n ls) v fp) : Own w (.s n ls') v fp := by
  rw [Own] at ho ⊢
  rcases ho with ho | ⟨hn, g, c, us, fp', h1, h2, h3, h4, h5, h6⟩
  · exact .inl ho
  · exact .inr ⟨hn, g, c, us, fp', h1, h2, h3, h4, h5, h _ _ h6⟩
theorem own_ch {w : World} : ∀ (ps : List (Int × Int)) (us : List Value) (fp : List Nat), OwnL w (ps.flatMap eCh) us fp → OwnL w ((ps.map chP).flatMap eChannel) us fp
  | [], us, fp, h => h
  | p :: ps, us, fp, h => by
    rw [List.flatMap_cons] at h
    rw [List.map_cons, List.flatMap_cons]
    have h' : OwnL w (.v (.int .i64 p.1) :: .v (.int .i64 p.2) :: .v (.slice none 0 0) :: ps.flatMap eCh) us fp := h
    obtain ⟨us1, rfl, h1⟩ := OwnL_w.1 h'
    obtain ⟨us2, rfl, h2⟩ := OwnL_w.1 h1
    obtain ⟨us3, rfl, h3⟩ := OwnL_w.1 h2
    show OwnL w (.v (.int .i64 p.1) :: .v (.int .i64 p.2) :: .s 0 [] :: (ps.map chP).flatMap eChannel) _ _
    refine OwnL_w.2 ⟨_, rfl, OwnL_w.2 ⟨_, rfl, OwnL_cons.2 ⟨_, us3, [], fp, rfl, rfl, own_none (α := Nat) (en := fun _ => []) w, own_ch ps us3 fp h3⟩⟩⟩
theorem allChannels_cnt (n : Int) : cntL ((allChannels n).flatMap eChannel) ≤ 1099511627776 := by
  have key : ∀ ps : List (Int × Int), cntL ((ps.map chP).flatMap eChannel) = ps.length * 2 := by
    intro ps
    induction ps with
    | nil => simp [cntL_nil]
    | cons p ps ih => rw [List.map_cons, List.flatMap_cons, cntL_append, ih, cnt_eChannel, List.length_cons]; simp only [chP, List.flatMap_nil, cntL_nil]; omega
  unfold allChannels
  by_cases h : inR n 1 4 = true
  · rw [if_pos h, key]
    have h1 := allCh_len n.toNat n.toNat
    have h2 : n.toNat * n.toNat ≤ 4 * 4 := by
      unfold inR at h; have h' := of_decide_eq_true h
      exact Nat.mul_le_mul (by omega) (by omega)
    omega
  · rw [if_neg h]; simp [cntL_nil]

set_option maxHeartbeats 3200000 in
set_option maxRecDepth 100000 in
theorem spec_AllChannels_calls (a : Int) (w : World) (hi0 : I64 a) :
    Calls Try.prog 28 #[.int .i64 a] w fun e w' => ∃ v', e = .returned v' ∧ RdW w' (.s (allChannels a).length ((allChannels a).flatMap eChannel)) v' ∧ Below w.heap.size w w' := by
  rcases Bool.eq_false_or_eq_true (inR a 1 4) with hI | hI
  rotate_left
  · have HE : Hid (allChannels a = []) := by unfold Hid allChannels; rw [hI]; rfl
    have HI := Lib.hid hI
    clear hI
    go_enter Try.func28, Try.ntmps28
    go_wp2_with fail
    refine (spec_l1In_calls _ _ _ _).mono ?_
    rintro e w1 ⟨rfl, rfl⟩
    rw [HI.out]
    go_wp2
    go_ret
    rw [HE.out]
    obtain ⟨fp, ho', hn', hge⟩ := ownRow_own (xs := ([] : List (Int × Int))) vals_eCh (ownsRow_made' (e := 76) (sz := 3) (w := w) (base := w.heap.size) rfl (Nat.le_refl _)) (by simp)
    have ho3 := own_swap (own_ch []) ho'
    exact ⟨_, rfl, ho3.rdw, (Below.refl _ _).alloc (Nat.le_refl _) _⟩
  obtain ⟨n, rfl⟩ : ∃ n : Nat, a = n := by
    unfold inR at hI; have h' := of_decide_eq_true hI
    exact ⟨a.toNat, by omega⟩
  have hn : 1 ≤ n ∧ n ≤ 4 := by unfold inR at hI; have h' := of_decide_eq_true hI; omega
  have HE : Hid (allChannels (n : Int) = (allCh n n).map chP) := by unfold Hid allChannels; rw [hI]; simp
  have HI := Lib.hid hI
  clear hI
  go_enter Try.func28, Try.ntmps28
  go_wp2_with fail
  refine (spec_l1In_calls _ _ _ _).mono ?_
  rintro e w1 ⟨rfl, rfl⟩
  rw [HI.out]
  go_wp2
  go_loopw [3, 4] (fun s t wr => ∃ (i : Nat) (A' : Option Addr) (k c' : Nat), i ≤ n ∧ t = .int .i64 ((i : Int) + 1) ∧ s = .slice A' k c' ∧ k ≤ 16 ∧ Hid (k = (allCh n i).length) ∧ Hid (wr.ownsRow w.heap.size 76 3 (.slice A' k c') k ((allCh n i).flatMap vsCh)) ∧ Hid (Below w.heap.size w wr)) (fun s t wr => n + 1 - (intOf t).toNat)
  case atStart => exact ⟨0, _, _, _, by omega, by simp, rfl, by omega, rfl, ownsRow_made' rfl (Nat.le_refl _), (Below.refl _ _).alloc (Nat.le_refl _) _⟩
  case round =>
    obtain ⟨i, A', k, c', hi, rfl, rfl, hk, HN, HO, HB⟩ := hrel
    by_cases hlt : i < n
    · have hle : ((i : Int) + 1) ≤ n := by omega
      go_wp2
      go_loopw [3, 5] (fun s t wr => ∃ (j : Nat) (A' : Option Addr) (k c' : Nat), j ≤ n ∧ t = .int .i64 ((j : Int) + 1) ∧ s = .slice A' k c' ∧ k ≤ 16 ∧ Hid (k = (allCh n i ++ rowCh i j).length) ∧ Hid (wr.ownsRow w.heap.size 76 3 (.slice A' k c') k ((allCh n i ++ rowCh i j).flatMap vsCh)) ∧ Hid (Below w.heap.size w wr)) (fun s t wr => n + 1 - (intOf t).toNat)
      case atStart => exact ⟨0, _, _, _, by omega, by simp, rfl, hk, by unfold Hid; rw [HN.out]; simp [rowCh], by unfold Hid; have h := HO.out; simpa [rowCh] using h, HB⟩
      case round =>
        obtain ⟨j, A2, k2, c2, hj, rfl, rfl, hk2, HN2, HO2, HB2⟩ := hrel
        by_cases hjl : j < n
        · have hle2 : ((j : Int) + 1) ≤ n := by omega
          by_cases hji : j = i
          · subst hji
            have HR := Lib.hid (rowCh_no j)
            go_wp2
            go_roundw
            case rel => exact ⟨j + 1, A2, k2, c2, by omega, by go_num, rfl, hk2, by unfold Hid; rw [HR.out]; exact HN2.out, by unfold Hid; rw [HR.out]; exact HO2.out, HB2⟩
            case measure => simp [intOf]; omega
          · have HR := Lib.hid (rowCh_yes i j hji)
            have hneq : ¬ ((i : Int) + 1 = (j : Int) + 1) := by omega
            have hneq2 : ¬ ((j : Int) + 1 = (i : Int) + 1) := by omega
            have hsm := allCh_small n i (j + 1) hn.2 hlt (by omega)
            rw [HR.out, ← List.append_assoc, List.length_append, ← HN2.out] at hsm
            have hsm2 : k2 + 1 ≤ 16 := hsm
            clear hsm
            go_wp2_with (at_builtin; refine wpList_append_rd rfl _ _ 44 rfl w.heap.size 76 _ _ 3 40 Try.underlying44 rfl rfl rfl rfl rfl (by omega) _ k2 _ rfl (HO2.out.alloc _) vals_eCh [(((i : Int) + 1, (j : Int) + 1) : Int × Int)] (one_eCh _) (lenv_eCh _) _ _ rfl (rdW_one vals_eCh wr (((i : Int) + 1, (j : Int) + 1) : Int × Int) 76) (by simp; omega) (by omega) (by have := HB2.out.size; simp; omega) ?_)
            intro A'' c'' w1 hown hgrow
            have hlo := HO2.out.lt
            have HB3 := Lib.hid ((HB2.out.alloc HB2.out.size _).trans (grown_below hgrow (by have := HB2.out.size; simp; omega) (fun k hk => (hlo k hk).1)))
            have HO3 : Hid (w1.ownsRow w.heap.size 76 3 (.slice A'' (k2 + 1) c'') (k2 + 1) ((allCh n i ++ rowCh i (j + 1)).flatMap vsCh)) := by
              unfold Hid; rw [HR.out]; simpa only [List.flatMap_append, List.flatMap_cons, List.flatMap_nil, List.append_nil, List.append_assoc] using hown
            clear hown hgrow hlo
            go_wp2
            go_roundw
            case rel => exact ⟨j + 1, A'', k2 + 1, c'', by omega, by go_num, rfl, hsm2, by unfold Hid; rw [HR.out, ← List.append_assoc, List.length_append, ← HN2.out]; rfl, HO3, HB3⟩
            case measure => simp [intOf]; omega
        · have : j = n := by omega
          subst this
          have HS := Lib.hid (allCh_step j i)
          have hng : ¬ ((j : Int) + 1 ≤ j) := by omega
          go_wp2
          go_roundw
          case rel => exact ⟨i + 1, A2, k2, c2, by omega, by go_num, rfl, hk2, by unfold Hid; rw [HS.out]; exact HN2.out, by unfold Hid; rw [HS.out]; exact HO2.out, HB2⟩
          case measure => simp [intOf]; omega
    · have : i = n := by omega
      subst this
      have hng : ¬ ((i : Int) + 1 ≤ i) := by omega
      go_wp2
      go_ret
      have hO := HO.out
      have hkk := HN.out
      rw [HE.out]
      subst hkk
      obtain ⟨fp, ho', hn', hge⟩ := ownRow_own (xs := allCh i i) vals_eCh hO (by omega)
      have ho3 := own_swap (own_ch (allCh i i)) ho'
      rw [show (allCh i i).length = ((allCh i i).map chP).length from (List.length_map _).symm] at ho3
      rw [show (allCh i i).length = ((allCh i i).map chP).length from (List.length_map _).symm]
      exact ⟨_, rfl, ho3.rdw, HB.out⟩
set_option maxHeartbeats 3200000 in
set_option maxRecDepth 100000 in
theorem impl_AllChannels_calls (a : Int) (w : World) (hi0 : I64 a) :
    Calls Try.prog 29 #[.int .i64 a] w fun e w' => ∃ v' fp, e = .returned v' ∧ Own w' (.s (allChannels a).length ((allChannels a).flatMap eChannel)) v' fp ∧ Fresh w fp ∧ Below w.heap.size w w' := by
  rcases Bool.eq_false_or_eq_true (inR a 1 4) with hI | hI
  rotate_left
  · have HE : Hid (allChannels a = []) := by unfold Hid allChannels; rw [hI]; rfl
    have HI := Lib.hid hI
    clear hI
    go_enter Try.func29, Try.ntmps29
    go_wp2_with fail
    refine (impl_in_calls _ _ _ _).mono ?_
    rintro e w1 ⟨rfl, rfl⟩
    rw [HI.out]
    go_wp2
    go_ret
    rw [HE.out]
    obtain ⟨fp, ho', hn', hge⟩ := ownRow_own (xs := ([] : List (Int × Int))) vals_eCh (ownsRow_made' (e := 76) (sz := 3) (w := w) (base := w.heap.size) rfl (Nat.le_refl _)) (by simp)
    have ho3 := own_swap (own_ch []) ho'
    first | exact ⟨_, fp, rfl, ho3, ⟨hn', fun g hg => hge g hg⟩, (Below.refl _ _).alloc (Nat.le_refl _) _⟩ | exact ⟨_, rfl, fp, ho3, ⟨hn', fun g hg => hge g hg⟩, (Below.refl _ _).alloc (Nat.le_refl _) _⟩
  obtain ⟨n, rfl⟩ : ∃ n : Nat, a = n := by
    unfold inR at hI; have h' := of_decide_eq_true hI
    exact ⟨a.toNat, by omega⟩
  have hn : 1 ≤ n ∧ n ≤ 4 := by unfold inR at hI; have h' := of_decide_eq_true hI; omega
  have HE : Hid (allChannels (n : Int) = (allCh n n).map chP) := by unfold Hid allChannels; rw [hI]; simp
  have HI := Lib.hid hI
  clear hI
  go_enter Try.func29, Try.ntmps29
  go_wp2_with fail
  refine (impl_in_calls _ _ _ _).mono ?_
  rintro e w1 ⟨rfl, rfl⟩
  rw [HI.out]
  go_wp2
  go_loopw [3, 4] (fun s t wr => ∃ (i : Nat) (A' : Option Addr) (k c' : Nat), i ≤ n ∧ t = .int .i64 ((i : Int) + 1) ∧ s = .slice A' k c' ∧ k ≤ 16 ∧ Hid (k = (allCh n i).length) ∧ Hid (wr.ownsRow w.heap.size 76 3 (.slice A' k c') k ((allCh n i).flatMap vsCh)) ∧ Hid (Below w.heap.size w wr)) (fun s t wr => n + 1 - (intOf t).toNat)
  case atStart => exact ⟨0, _, _, _, by omega, by simp, rfl, by omega, rfl, ownsRow_made' rfl (Nat.le_refl _), (Below.refl _ _).alloc (Nat.le_refl _) _⟩
  case round =>
    obtain ⟨i, A', k, c', hi, rfl, rfl, hk, HN, HO, HB⟩ := hrel
    by_cases hlt : i < n
    · have hle : ((i : Int) + 1) ≤ n := by omega
      go_wp2
      go_loopw [3, 5] (fun s t wr => ∃ (j : Nat) (A' : Option Addr) (k c' : Nat), j ≤ n ∧ t = .int .i64 ((j : Int) + 1) ∧ s = .slice A' k c' ∧ k ≤ 16 ∧ Hid (k = (allCh n i ++ rowCh i j).length) ∧ Hid (wr.ownsRow w.heap.size 76 3 (.slice A' k c') k ((allCh n i ++ rowCh i j).flatMap vsCh)) ∧ Hid (Below w.heap.size w wr)) (fun s t wr => n + 1 - (intOf t).toNat)
      case atStart => exact ⟨0, _, _, _, by omega, by simp, rfl, hk, by unfold Hid; rw [HN.out]; simp [rowCh], by unfold Hid; have h := HO.out; simpa [rowCh] using h, HB⟩
      case round =>
        obtain ⟨j, A2, k2, c2, hj, rfl, rfl, hk2, HN2, HO2, HB2⟩ := hrel
        by_cases hjl : j < n
        · have hle2 : ((j : Int) + 1) ≤ n := by omega
          by_cases hji : j = i
          · subst hji
            have HR := Lib.hid (rowCh_no j)
            go_wp2
            go_roundw
            case rel => exact ⟨j + 1, A2, k2, c2, by omega, by go_num, rfl, hk2, by unfold Hid; rw [HR.out]; exact HN2.out, by unfold Hid; rw [HR.out]; exact HO2.out, HB2⟩
            case measure => simp [intOf]; omega
          · have HR := Lib.hid (rowCh_yes i j hji)
            have hneq : ¬ ((i : Int) + 1 = (j : Int) + 1) := by omega
            have hneq2 : ¬ ((j : Int) + 1 = (i : Int) + 1) := by omega
            have hsm := allCh_small n i (j + 1) hn.2 hlt (by omega)
            rw [HR.out, ← List.append_assoc, List.length_append, ← HN2.out] at hsm
            have hsm2 : k2 + 1 ≤ 16 := hsm
            clear hsm
            go_wp2_with (at_builtin; refine wpList_append_rd rfl _ _ 44 rfl w.heap.size 76 _ _ 3 40 Try.underlying44 rfl rfl rfl rfl rfl (by omega) _ k2 _ rfl (HO2.out.alloc _) vals_eCh [(((i : Int) + 1, (j : Int) + 1) : Int × Int)] (one_eCh _) (lenv_eCh _) _ _ rfl (rdW_one vals_eCh wr (((i : Int) + 1, (j : Int) + 1) : Int × Int) 76) (by simp; omega) (by omega) (by have := HB2.out.size; simp; omega) ?_)
            intro A'' c'' w1 hown hgrow
            have hlo := HO2.out.lt
            have HB3 := Lib.hid ((HB2.out.alloc HB2.out.size _).trans (grown_below hgrow (by have := HB2.out.size; simp; omega) (fun k hk => (hlo k hk).1)))
            have HO3 : Hid (w1.ownsRow w.heap.size 76 3 (.slice A'' (k2 + 1) c'') (k2 + 1) ((allCh n i ++ rowCh i (j + 1)).flatMap vsCh)) := by
              unfold Hid; rw [HR.out]; simpa only [List.flatMap_append, List.flatMap_cons, List.flatMap_nil, List.append_nil, List.append_assoc] using hown
            clear hown hgrow hlo
            go_wp2
            go_roundw
            case rel => exact ⟨j + 1, A'', k2 + 1, c'', by omega, by go_num, rfl, hsm2, by unfold Hid; rw [HR.out, ← List.append_assoc, List.length_append, ← HN2.out]; rfl, HO3, HB3⟩
            case measure => simp [intOf]; omega
        · have : j = n := by omega
          subst this
          have HS := Lib.hid (allCh_step j i)
          have hng : ¬ ((j : Int) + 1 ≤ j) := by omega
          go_wp2
          go_roundw
          case rel => exact ⟨i + 1, A2, k2, c2, by omega, by go_num, rfl, hk2, by unfold Hid; rw [HS.out]; exact HN2.out, by unfold Hid; rw [HS.out]; exact HO2.out, HB2⟩
          case measure => simp [intOf]; omega
    · have : i = n := by omega
      subst this
      have hng : ¬ ((i : Int) + 1 ≤ i) := by omega
      go_wp2
      go_ret
      have hO := HO.out
      have hkk := HN.out
      rw [HE.out]
      subst hkk
      obtain ⟨fp, ho', hn', hge⟩ := ownRow_own (xs := allCh i i) vals_eCh hO (by omega)
      have ho3 := own_swap (own_ch (allCh i i)) ho'
      rw [show (allCh i i).length = ((allCh i i).map chP).length from (List.length_map _).symm] at ho3
      rw [show (allCh i i).length = ((allCh i i).map chP).length from (List.length_map _).symm]
      first | exact ⟨_, fp, rfl, ho3, ⟨hn', fun g hg => hge g hg⟩, HB.out⟩ | exact ⟨_, rfl, fp, ho3, ⟨hn', fun g hg => hge g hg⟩, HB.out⟩

end Go.Proofs.Ytkgnkekbcblnlaa
