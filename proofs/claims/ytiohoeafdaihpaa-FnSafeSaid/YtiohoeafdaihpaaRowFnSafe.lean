/- The statement FnSafe: for every input the law returns true and leaves its arguments as they were; no condition. -/
import Derived.Test.YtiohoeafdaihpaaRows
import Derived.Test.YtiohoeafdaihpaaArgTypes
import Derived.Test.YtiohoeafdaihpaaLawFnSafe
namespace Go.Proofs.Ytiohoeafdaihpaa
open Go.ChangeShapes Go.WideShapes Go.ChangeAt Go.RowKit Go.Deep
set_option linter.unusedVariables false
set_option linter.unusedSimpArgs false

set_option maxRecDepth 100000 in
/-- The law's row: for every input that can be read the call returns true, and each argument reads behind it as it read before. -/
theorem FnSafe_lifted (os : Os) (started : os.Started) (H : Type) (enc : TypeId × Value → H) :
    ReturnsInHanded {} Try.checked os 5 .any (Rows.fnSafeSpec.pre6 enc Try.prog Try.f5 Rows.fnSafeRow.domain false) (Rows.fnSafeSpec.post enc Try.prog Try.f5 false true false false) := by
  refine returnsInHanded_of_change_sized (C := Try.checked) (by kernel_rfl) started (by kernel_rfl) Try.func5
    (ChangeSpec.witness6 (enc := enc) (C := Try.checked) false ⟨#[], #[.slice none 0 0], []⟩ 8 (by kernel_rfl) (by kernel_rfl) (by kernel_rfl) (by kernel_rfl)) ?_
  intro W base args ds gs before hval0 hW hcnd hsz0 _
  have hval : ∀ (j : Nat) t v, Try.f5.params[j]? = some t → args[j]? = some v → Value.okWide Try.prog W .any base t v := hval0
  have hW' := hW
  obtain ⟨p0, q, hA0, hV, rfl, hfz, hnd⟩ := hW
  have hA : DataW.TrodAll enc Try.prog W 0 (fun _ => true) true Try.f5.params.toList args.toList ds p0 := hA0
  rw [Try.params5] at hA hval
  obtain ⟨v0, d0, rfl, rfl, h0⟩ := trodAll_one hA
  obtain ⟨rfl, rfl⟩ := trodVars_none hV
  have hsz : (DataW.weightsEach Try.prog [40] [d0]).all (· ≤ reachBytes) = true := hsz0
  have h0k := h0
  obtain ⟨A0, n0, c0, rfl⟩ := okWide_slice Try.underlying40 (hval 0 40 v0 rfl rfl)
  obtain ⟨fu0, hf0⟩ := h0
  rw [slice_cells] at hf0
  obtain ⟨a0, u0, e0, r0, st0⟩ := arg_slice eByte Try.underlying40 (show Try.prog.cellsOf 5 = 1 from by kernel_rfl) (by omega) (by rw [show Try.prog.bytesOf 5 = 1 from by kernel_rfl]; omega) len_eByte (fun _ _ _ h _ => by obtain ⟨n, rfl⟩ := arg_u8 Try.underlying5 h; exact ⟨n, mkrd_eByte, by simp [eByte, StrOkL_cons, StrOkL_nil, StrOk_int]⟩) hf0 (wok_of hsz 0 rfl rfl)
  injection e0 with e0 _
  subst e0
  clear hA0 hval0 hsz0
  simp only [List.append_nil] at hW'
  refine (FnSafe_calls W _ a0 r0).mono fun e W' ⟨he, hb⟩ => ?_
  subst he
  exact ⟨_, rfl, post_of_below (pa := p0) (pv := []) hW' (fun _ _ _ => trodAll_mk1 (bool_reads Try.underlying4 true)) (fun sp hsp => trodAll_mk1 (trod_carry (by kernel_rfl) (by kernel_rfl) (of_decide_eq_true (by kernel_rfl)) h0k hb (fun x hx => hW'.lt x (by simp [hx])) sp (fun x hx => hsp x (by simp [hx])))) (fun _ _ => rfl) (by simp) hb (ok_one (by kernel_rfl) rfl (bool_okw Try.underlying4 true))⟩
theorem FnSafe_holds : Rows.FnSafeSaid :=
  OpenClaim.holds_of_wide 5 Try.f5 rfl rfl rfl rfl rfl rfl rfl ⟨rfl, rfl, rfl, rfl, rfl⟩ rfl rfl rfl rfl rfl (by kernel_rfl) Try.func5 (by kernel_rfl)
    (of_decide_eq_true (by kernel_rfl)) (by unfold Func.isWrapper; first | (rw [if_pos (by decide +kernel)]; kernel_rfl) | (rw [if_neg (by decide +kernel)]; exact ⟨rfl, rfl⟩))
    (fun os started H enc _ => FnSafe_lifted os started H enc)

end Go.Proofs.Ytiohoeafdaihpaa
