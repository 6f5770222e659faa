import Derived.Test.YtklbpjnpmbidiaaProg
import Derived.Test.YtklbpjnpmbidiaaTypes
import Derived.StillTailTactics
import Derived.Deep.CutRange
import Derived.LoopIn
import Derived.Deep.RegionHeld3
import Derived.Laws.IdiomStrings
import Derived.Test.YtklbpjnpmbidiaaAppend
import Derived.Laws.StructEq
import Derived.Lib.SliceRun
import Derived.Shelf.RegionOpenPlain
import Derived.Test.YtklbpjnpmbidiaaInRound
import Derived.Test.YtklbpjnpmbidiaaCommon
namespace Go.Proofs.Ytklbpjnpmbidiaa
open Go.RowKit
set_option linter.unusedVariables false
set_option linter.unusedSimpArgs false

set_option maxHeartbeats 1600000 in
set_option maxRecDepth 100000 in
theorem slices_Chunk_calls (A : Option Addr) (n c : Nat) (w : World) :
    Calls Try.prog 24 #[.slice A n c, .int .i64 2] w fun e w' => e = .returned (.func (.func 47) #[] #[.pointer (some ⟨w.heap.size, 0, none⟩), .pointer (some ⟨w.heap.size + 1, 0, none⟩)]) ∧ w' = (w.alloc (.cells #[.slice A n c] 41)).alloc (.cells #[.int .i64 2] 3) := by
  go_enter Try.func24, Try.ntmps24
  go_wp2
  go_ret
  exact ⟨rfl, rfl⟩
set_option maxHeartbeats 3200000 in
set_option maxRecDepth 100000 in
theorem chunk_stops (g2 c2 x10 Bs Bn : Nat) (A2 : Option Addr) (w : World) (hBs : Blk w Bs 41 #[.slice A2 (2 * x10) c2]) (hBn : Blk w Bn 3 #[.int .i64 2]) (hx : x10 ≤ 2) (hA : 0 < x10 → A2 = some ⟨g2, 0, none⟩) (hc : 2 * x10 ≤ c2) :
    SeqStopsK Fence.wide 4 Try.prog 47 #[.pointer (some ⟨Bs, 0, none⟩), .pointer (some ⟨Bn, 0, none⟩)] (fun j : Fin x10 => #[.slice (some ⟨g2, 2 * j.val, none⟩) 2 2]) (fun W W' => W'.heap[Bs]? = W.heap[Bs]? ∧ W'.heap[Bn]? = W.heap[Bn]?) (fun xs => xs.map Fin.val = List.range x10) (fun _ => True) x10 w := by
  intro l J Jx W hW hJ hJx hY h0
  have KS := Lib.hid (hBs.below hW)
  have KN := Lib.hid (hBn.below hW)
  have HY := Lib.hid hY
  have HJA := Lib.hid hJ
  have H0 := Lib.hid h0
  clear hBs hBn hW hJ hJx hY h0
  refine callsIn_wide.2 ?_
  show Calls Try.prog 47 #[.func (.yield l) #[] #[], .pointer (some ⟨Bs, 0, none⟩), .pointer (some ⟨Bn, 0, none⟩)] W _
  go_enter Try.func47, Try.ntmps47
  go_wp2
  go_loopw [4] (fun a wr => ∃ (j : Nat) (z : Int) (pre : List (Fin x10)), j ≤ x10 ∧ a = .int .i64 z ∧ z = 2 * j ∧ Hid (pre.map Fin.val = List.range j) ∧ Hid (Blk wr Bs 41 #[.slice A2 (2 * x10) c2]) ∧ Hid (Blk wr Bn 3 #[.int .i64 2]) ∧ Hid (J pre wr)) (fun a wr => 5 - (intOf a).toNat)
  case atStart => exact ⟨0, 0, [], by omega, rfl, by omega, rfl, KS, KN, H0⟩
  case round =>
    obtain ⟨j, z, pre, hj, rfl, hz, HPR, HKS, HKN, HJ⟩ := hrel
    have hpl : pre.length = j := by have h := congrArg List.length HPR.out; simpa using h
    have HPL := Lib.hid hpl
    clear hpl
    obtain ⟨ks, fs⟩ := HKS.out.rules
    obtain ⟨kn, fn_⟩ := HKN.out.rules
    have ls := HKS.out.lt
    have ln := HKN.out.lt
    by_cases hlt : j < x10
    · obtain rfl := hA (by omega)
      clear hA
      have hj2 : j = 0 ∨ j = 1 := by omega
      rcases hj2 with rfl | rfl
      · obtain rfl : z = 0 := by omega
        clear hz
        have hxb : (0 : Int) < 2 * (x10 : Int) := by omega
        go_wp2
        go_quiet (fail)
        go_upto_region 4 with fail
        have HJ2 : Hid (J pre (wr.drewN nq)) := HJA.out _ _ _ none HJ.out ⟨rfl, rfl, rfl, Nat.le_refl _, fun _ _ _ => rfl⟩ (fun r e => by cases e)
        obtain ⟨fn, tmps, assign, body, hy0, hR⟩ := HY.out pre ⟨0, hlt⟩ (wr.drewN nq) HJ2.out (by rw [HPL.out]; exact hlt)
        have hy : (Instr.yield l #[.slice (some ⟨g2, 0, none⟩) 2 2]).run Try.prog (wr.drewN nq) = .ok (.round l fn tmps assign body) (wr.drewN nq) := hy0
        have HKS2 : Hid (Blk (wr.drewN nq) Bs 41 #[.slice (some ⟨g2, 0, none⟩) (2 * x10) c2]) := HKS.out
        have HKN2 : Hid (Blk (wr.drewN nq) Bn 3 #[.int .i64 2]) := HKN.out
        have HR := Lib.hid hR
        clear hy0 hR
        refine (wpIn_wide (n := 4)).1 ?_
        gi_wp2
        refine HR.out.mono ?_
        rintro e W3 (⟨rfl, hJ3, hk3⟩ | ⟨rfl, hJx3⟩)
        · gi_wp2
          have KS3 : Hid (Blk W3 Bs 41 #[.slice (some ⟨g2, 0, none⟩) (2 * x10) c2]) := hk3.1.trans HKS2.out
          have KN3 : Hid (Blk W3 Bn 3 #[.int .i64 2]) := hk3.2.trans HKN2.out
          have HJ3 := Lib.hid hJ3
          have HPR3 : Hid ((pre ++ [(⟨0, hlt⟩ : Fin x10)]).map Fin.val = List.range 1) := by unfold Hid; rw [List.map_append, HPR.out, List.range_succ]; rfl
          clear hk3 hJ3 ks fs kn fn_ ls ln hy HR
          obtain ⟨ks, fs⟩ := KS3.out.rules
          obtain ⟨kn, fn_⟩ := KN3.out.rules
          have ls := KS3.out.lt
          have ln := KN3.out.lt
          go_wp2
          go_roundw
          case rel => exact ⟨1, 2, _, by omega, rfl, by omega, HPR3, KS3, KN3, HJ3⟩
          case measure => simp [intOf]
        · gi_wp2
          go_wp2
          refine bodyPost_ret (results_none rfl _ _ _) rfl ?_
          exact ⟨⟨_, rfl⟩, .inr ⟨_, trivial, hJx3⟩⟩
      · obtain rfl : z = 2 := by omega
        clear hz
        have hxb : (2 : Int) < 2 * (x10 : Int) := by omega
        go_wp2
        go_quiet (fail)
        go_upto_region 4 with fail
        have HJ2 : Hid (J pre (wr.drewN nq)) := HJA.out _ _ _ none HJ.out ⟨rfl, rfl, rfl, Nat.le_refl _, fun _ _ _ => rfl⟩ (fun r e => by cases e)
        obtain ⟨fn, tmps, assign, body, hy0, hR⟩ := HY.out pre ⟨1, hlt⟩ (wr.drewN nq) HJ2.out (by rw [HPL.out]; exact hlt)
        have hy : (Instr.yield l #[.slice (some ⟨g2, 2, none⟩) 2 2]).run Try.prog (wr.drewN nq) = .ok (.round l fn tmps assign body) (wr.drewN nq) := hy0
        have HKS2 : Hid (Blk (wr.drewN nq) Bs 41 #[.slice (some ⟨g2, 0, none⟩) (2 * x10) c2]) := HKS.out
        have HKN2 : Hid (Blk (wr.drewN nq) Bn 3 #[.int .i64 2]) := HKN.out
        have HR := Lib.hid hR
        clear hy0 hR
        refine (wpIn_wide (n := 4)).1 ?_
        gi_wp2
        refine HR.out.mono ?_
        rintro e W3 (⟨rfl, hJ3, hk3⟩ | ⟨rfl, hJx3⟩)
        · gi_wp2
          have KS3 : Hid (Blk W3 Bs 41 #[.slice (some ⟨g2, 0, none⟩) (2 * x10) c2]) := hk3.1.trans HKS2.out
          have KN3 : Hid (Blk W3 Bn 3 #[.int .i64 2]) := hk3.2.trans HKN2.out
          have HJ3 := Lib.hid hJ3
          have HPR3 : Hid ((pre ++ [(⟨1, hlt⟩ : Fin x10)]).map Fin.val = List.range 2) := by unfold Hid; rw [List.map_append, HPR.out, List.range_succ]; rfl
          clear hk3 hJ3 ks fs kn fn_ ls ln hy HR
          obtain ⟨ks, fs⟩ := KS3.out.rules
          obtain ⟨kn, fn_⟩ := KN3.out.rules
          have ls := KS3.out.lt
          have ln := KN3.out.lt
          go_wp2
          go_roundw
          case rel => exact ⟨2, 4, _, by omega, rfl, by omega, HPR3, KS3, KN3, HJ3⟩
          case measure => simp [intOf]
        · gi_wp2
          go_wp2
          refine bodyPost_ret (results_none rfl _ _ _) rfl ?_
          exact ⟨⟨_, rfl⟩, .inr ⟨_, trivial, hJx3⟩⟩
    · have hjx : x10 = j := by omega
      subst hjx
      clear hlt
      go_wp2
      go_end0
      exact ⟨⟨_, rfl⟩, .inl ⟨_, HPR.out, HJ.out⟩⟩

end Go.Proofs.Ytklbpjnpmbidiaa
