import Derived.Test.YtklbpjnpmbidiaaProg
import Derived.Test.YtklbpjnpmbidiaaTypes
import Derived.StillTailTactics
import Derived.Deep.RegionHeld3
import Derived.Laws.IdiomStrings
import Derived.Test.YtklbpjnpmbidiaaAppend
import Derived.Laws.StructEq
import Derived.Lib.SliceRun
import Derived.Shelf.RegionOpenPlain
import Derived.Test.YtklbpjnpmbidiaaPureDec
namespace Go.Proofs.Ytklbpjnpmbidiaa
open Go.RowKit
set_option linter.unusedVariables false
set_option linter.unusedSimpArgs false

-- the plain laws of FnMessages
theorem decMsg_ok {c : List UInt8} {m : GMessage} (h : decMsg c = some m) : isMessageB m = true ∧ encM m = c := by
  cases h1 : rdInts 11 c with
  | none => rw [decMsg_none1 h1] at h; cases h
  | some p =>
    obtain ⟨n, a1⟩ := p
    by_cases hn : 2 < n.getD 10 0
    · rw [decMsg_none2 h1 hn] at h; cases h
    cases h2 : rdInts (2 * n.getD 10 0) (c.drop a1) with
    | none => rw [decMsg_none3 h1 hn h2] at h; cases h
    | some q =>
      obtain ⟨args, a2⟩ := q
      cases h3 : rdBytes (c.drop (a1 + a2)) 6 with
      | none => rw [decMsg_none4 h1 hn h2 h3] at h; cases h
      | some r =>
        obtain ⟨name, mm⟩ := r
        rw [decMsg_some' h1 hn h2 h3] at h
        split at h
        · injection h with h; subst h; assumption
        · cases h
theorem decode_ok {c : List UInt8} (h : decodeMessage2 c = true) : isMessageB (decodeMessage1 c) = true ∧ encodeMessage (decodeMessage1 c) = c := by
  unfold decodeMessage2 at h
  cases hd : decMsg c with
  | none => rw [hd] at h; cases h
  | some m =>
    obtain ⟨h1, h2⟩ := decMsg_ok hd
    unfold decodeMessage1
    rw [hd]
    refine ⟨h1, ?_⟩
    show encodeMessage m = c
    unfold encodeMessage
    rw [if_pos h1, h2]
theorem decMsg_nil : decMsg [] = none := decMsg_none1 (by rw [show (11 : Nat) = 10 + 1 from rfl, rdInts, rdUv_nil])
theorem decode_bad {m : GMessage} (h : isMessageB m = false) : decodeMessage2 (encodeMessage m) = false := by
  unfold encodeMessage decodeMessage2
  rw [h]
  simp [decMsg_nil]
theorem siz_dec {c : List UInt8} (h : decodeMessage2 c = true) : sizL (eMessage (decodeMessage1 c)) ≤ 1048576 := by
  have h1 := (decode_ok h).1
  have ha := args_le h1
  have hn := nm_le h1
  have e : (decodeMessage1 c).Name.data.toList.length = (decodeMessage1 c).Name.size := rfl
  rw [siz_eMessage, siz_wires]
  omega
theorem wire_rng {w : GWire} (h : isWireB w = true) : (0 ≤ w.Kind ∧ w.Kind ≤ 3) ∧ (0 ≤ w.N ∧ w.N ≤ 999999) := by
  unfold isWireB inR at h
  split at h
  · simp only [decide_eq_true_eq] at h; omega
  split at h
  · simp only [decide_eq_true_eq] at h; omega
  · simp only [decide_eq_true_eq] at h; omega
theorem msg_ints {m : GMessage} (h : isMessageB m = true) : (∀ x, x ∈ intsM m → 0 ≤ x ∧ x ≤ 1000000000000) ∧ (∀ x, x ∈ m.Args.flatMap wInts → 0 ≤ x ∧ x ≤ 1000000000000) := by
  have ha := args_le h
  obtain ⟨k, p, a, q, nm, args, ⟨vk, vn⟩, c, ⟨tv, te, ts⟩⟩ := m
  have nilA : args.length = 0 → ∀ x, x ∈ args.flatMap wInts → 0 ≤ x ∧ x ≤ 1000000000000 := by
    intro e x hx
    rw [List.length_eq_zero_iff.1 e] at hx
    cases hx
  unfold isMessageB calmB toB tagB at h
  dsimp only at h
  simp only [intsM, List.mem_cons, List.not_mem_nil, or_false] at ha ⊢
  split at h
  · simp only [Bool.and_eq_true, Bool.or_eq_true, inR, decide_eq_true_eq, beq_iff_eq, eqbWire, zWire] at h
    refine ⟨?_, ?_⟩
    · rintro x (rfl | rfl | rfl | rfl | rfl | rfl | rfl | rfl | rfl | rfl | rfl) <;> omega
    · intro x hx
      obtain ⟨w, hw, hx⟩ := List.mem_flatMap.1 hx
      have hb : badB args = false := by simpa using h.1
      have hw2 : isWireB w = true := by
        unfold badB at hb
        rw [List.any_eq_false] at hb
        simpa using hb w hw
      have := wire_rng hw2
      simp only [wInts, List.mem_cons, List.not_mem_nil, or_false] at hx
      rcases hx with rfl | rfl <;> omega
  split at h
  · simp only [Bool.and_eq_true, Bool.or_eq_true, inR, decide_eq_true_eq, beq_iff_eq, eqbWire, zWire, eqbTag, zTag] at h
    have hv := wire_rng h.2.2.1
    dsimp only at hv
    refine ⟨?_, nilA (by omega)⟩
    rintro x (rfl | rfl | rfl | rfl | rfl | rfl | rfl | rfl | rfl | rfl | rfl) <;> omega
  split at h
  · simp only [Bool.and_eq_true, Bool.or_eq_true, inR, decide_eq_true_eq, beq_iff_eq, eqbWire, zWire, eqbTag, zTag] at h
    refine ⟨?_, nilA (by omega)⟩
    rintro x (rfl | rfl | rfl | rfl | rfl | rfl | rfl | rfl | rfl | rfl | rfl) <;> omega
  split at h
  · simp only [Bool.and_eq_true, Bool.or_eq_true, inR, decide_eq_true_eq, beq_iff_eq, eqbWire, zWire, eqbTag, zTag] at h
    refine ⟨?_, nilA (by omega)⟩
    rintro x (rfl | rfl | rfl | rfl | rfl | rfl | rfl | rfl | rfl | rfl | rfl) <;> omega
  · cases h
theorem toI_nat : ∀ l : List Int, (∀ x, x ∈ l → 0 ≤ x) → toI (l.map Int.toNat) = l
  | [], _ => rfl
  | x :: l, h => by
    have h0 := h x (by simp)
    have ih := toI_nat l (fun y hy => h y (by simp [hy]))
    unfold toI at ih ⊢
    rw [List.map_cons, List.map_cons, ih, Int.toNat_of_nonneg h0]
theorem wires_back : ∀ ws : List GWire, (∀ x, x ∈ ws.flatMap wInts → 0 ≤ x) → wiresOf ((ws.flatMap wInts).map Int.toNat) = ws
  | [], _ => rfl
  | ⟨a, b⟩ :: ws, h => by
    have h0 := h a (by simp [wInts])
    have h1 := h b (by simp [wInts])
    have ih := wires_back ws (fun y hy => h y (by rw [List.flatMap_cons]; exact List.mem_append_right _ hy))
    rw [List.flatMap_cons, List.map_append]
    show wiresOf (a.toNat :: b.toNat :: ((ws.flatMap wInts).map Int.toNat)) = _
    rw [wiresOf, ih, Int.toNat_of_nonneg h0, Int.toNat_of_nonneg h1]
theorem nat_rng {l : List Int} (h : ∀ x, x ∈ l → 0 ≤ x ∧ x ≤ 1000000000000) : ∀ y, y ∈ l.map Int.toNat → y ≤ 1000000000000 := by
  intro y hy
  obtain ⟨x, hx, rfl⟩ := List.mem_map.1 hy
  have := h x hx
  omega
theorem msgOf_back {m : GMessage} (hI : ∀ x, x ∈ intsM m → 0 ≤ x ∧ x ≤ 1000000000000) (hA : ∀ x, x ∈ m.Args.flatMap wInts → 0 ≤ x ∧ x ≤ 1000000000000) :
    msgOf ((intsM m).map Int.toNat) ((m.Args.flatMap wInts).map Int.toNat) m.Name.data.toList = m := by
  unfold msgOf
  rw [wires_back _ (fun x hx => (hA x hx).1)]
  obtain ⟨k, p, a, q, ⟨nm⟩, args, ⟨vk, vn⟩, c, ⟨tv, te, ts⟩⟩ := m
  clear hA
  unfold intsM at hI ⊢
  dsimp only at hI ⊢
  have gk := Int.toNat_of_nonneg (hI k (by simp)).1
  have gp := Int.toNat_of_nonneg (hI p (by simp)).1
  have ga := Int.toNat_of_nonneg (hI a (by simp)).1
  have gq := Int.toNat_of_nonneg (hI q (by simp)).1
  have gc := Int.toNat_of_nonneg (hI c (by simp)).1
  have gtv := Int.toNat_of_nonneg (hI tv (by simp)).1
  have gte := Int.toNat_of_nonneg (hI te (by simp)).1
  have gts := Int.toNat_of_nonneg (hI ts (by simp)).1
  have gvk := Int.toNat_of_nonneg (hI vk (by simp)).1
  have gvn := Int.toNat_of_nonneg (hI vn (by simp)).1
  clear hI
  simp only [List.map_cons, List.map_nil, List.getD_cons_zero, List.getD_cons_succ, Array.toArray_toList, gk, gp, ga, gq, gc, gtv, gte, gts, gvk, gvn]
theorem decode_full {m : GMessage} (h : isMessageB m = true) : decMsg (encM m) = some m := by
  obtain ⟨hI, hA⟩ := msg_ints h
  have ha := args_le h
  have hn := nm_le h
  have nI := nat_rng hI
  have nG := nat_rng hA
  have e1 : (intsM m).flatMap uvI = ((intsM m).map Int.toNat).flatMap uv := by
    have := uvI_toI ((intsM m).map Int.toNat) nI
    rwa [toI_nat _ (fun x hx => (hI x hx).1)] at this
  have e2 : (m.Args.flatMap wInts).flatMap uvI = ((m.Args.flatMap wInts).map Int.toNat).flatMap uv := by
    have := uvI_toI ((m.Args.flatMap wInts).map Int.toNat) nG
    rwa [toI_nat _ (fun x hx => (hA x hx).1)] at this
  have hm := msgOf_back hI hA
  have h10 : ((intsM m).map Int.toNat).getD 10 0 = m.Args.length := by simp [intsM]
  have hN : ((intsM m).map Int.toNat).length = 11 := rfl
  have hG : ((m.Args.flatMap wInts).map Int.toNat).length = 2 * m.Args.length := by rw [List.length_map, wInts_len]
  generalize ((intsM m).map Int.toNat) = N at *
  generalize ((m.Args.flatMap wInts).map Int.toNat) = G at *
  have eE : encM m = N.flatMap uv ++ (G.flatMap uv ++ (uv m.Name.data.toList.length ++ m.Name.data.toList)) := by
    unfold encM numsM
    rw [List.flatMap_append, e1, e2, uvI_nat (by omega)]
    simp only [List.append_assoc]
  have h1 : rdInts 11 (encM m) = some (N, (N.flatMap uv).length) := by
    rw [eE, ← hN]; exact rdInts_full N _ nI
  have h2 : rdInts (2 * N.getD 10 0) ((encM m).drop (N.flatMap uv).length) = some (G, (G.flatMap uv).length) := by
    rw [eE, List.drop_left, h10, ← hG]; exact rdInts_full G _ nG
  have h3 : rdBytes ((encM m).drop ((N.flatMap uv).length + (G.flatMap uv).length)) 6 = some (m.Name.data.toList, (uv m.Name.data.toList.length).length + m.Name.data.toList.length) := by
    rw [eE, ← List.append_assoc, ← List.length_append, List.drop_left]
    generalize m.Name.data.toList = nm at *
    have hu := rdUv_full nm.length 0 0 nm (by have := uv_len6 nm.length (by omega); omega) (.inr rfl) (by simp; omega)
    simp only [Nat.zero_add, Nat.pow_zero, Nat.mul_one] at hu
    unfold rdBytes
    rw [hu]
    simp only
    rw [if_neg (by rw [List.length_append]; omega), List.drop_left, List.take_length]
  rw [decMsg_some' h1 (by omega) h2 h3, hm, if_pos ⟨h, rfl⟩]
theorem decode_enc (m : GMessage) : decodeMessage2 (encodeMessage m) = isMessageB m := by
  cases h : isMessageB m with
  | false => exact decode_bad h
  | true =>
    unfold encodeMessage decodeMessage2
    rw [if_pos h, decode_full h]; rfl
theorem decode_same {m : GMessage} (h : isMessageB m = true) : decodeMessage1 (encodeMessage m) = m := by
  unfold encodeMessage decodeMessage1
  rw [if_pos h, decode_full h]; rfl

end Go.Proofs.Ytklbpjnpmbidiaa
