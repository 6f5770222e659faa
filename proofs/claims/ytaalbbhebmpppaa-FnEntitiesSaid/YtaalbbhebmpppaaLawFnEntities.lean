import Derived.Test.YtaalbbhebmpppaaProg
import Derived.Test.YtaalbbhebmpppaaTypes
import Derived.StillTailTactics
import Derived.Deep.CutBlock
import Derived.Deep.CutRange
import Derived.Laws.OwnMore
import Derived.Deep.AppendLies
import Derived.Deep.RegionWith
import Derived.Deep.RegionHeld3
import Derived.Laws.IdiomStrings
import Derived.Test.YtaalbbhebmpppaaAppend
import Derived.Laws.StructEq
import Derived.Lib.SliceRun
import Derived.Shelf.RegionOpenPlain
import Derived.Test.YtaalbbhebmpppaaDrawE6
import Derived.Test.YtaalbbhebmpppaaDrawE7
import Derived.Test.YtaalbbhebmpppaaEntity
import Derived.Test.YtaalbbhebmpppaaEqEnt
import Derived.Test.YtaalbbhebmpppaaEntS
import Derived.Test.YtaalbbhebmpppaaEntI
import Derived.Test.YtaalbbhebmpppaaIVal
import Derived.Test.YtaalbbhebmpppaaHelp
namespace Go.Proofs.Ytaalbbhebmpppaa
open Go.RowKit
set_option linter.unusedVariables false
set_option linter.unusedSimpArgs false

set_option maxHeartbeats 1600000 in
theorem laws_big_calls (A : Option Addr) (n c : Nat) (w : World) (h : n ≤ 1048576) :
    Calls Try.prog 14 #[.slice A n c] w fun e w' => e = .returned (.bool false) ∧ w' = w := by
  have hn : ¬ (1048576 : Int) < n := by omega
  go_enter Try.func14, Try.ntmps14
  go_wp2
  go_ret
  exact ⟨rfl, rfl⟩
set_option maxHeartbeats 1600000 in
theorem laws_big_calls' (A : Option Addr) (n c : Nat) (w : World) (hn : (1048576 : Int) < n) :
    Calls Try.prog 14 #[.slice A n c] w fun e w' => e = .returned (.bool true) ∧ w' = w := by
  go_enter Try.func14, Try.ntmps14
  go_wp2
  go_ret
  exact ⟨rfl, rfl⟩
-- the plain laws of FnEntities
theorem sameL_symm {α : Type} {eq : α → α → Bool} (h : ∀ a b, eq a b = eq b a) : ∀ (xs ys : List α), sameL eq xs ys = sameL eq ys xs
  | [], [] => rfl
  | [], _ :: _ => rfl
  | _ :: _, [] => rfl
  | x :: xs, y :: ys => by rw [sameL, sameL, h x y, sameL_symm h xs ys]
theorem beq_comm' {α : Type} [BEq α] [LawfulBEq α] (a b : α) : (a == b) = (b == a) := by
  cases h : a == b with
  | true => rw [eq_of_beq h, beq_self_eq_true]
  | false => cases h2 : b == a with
    | false => rfl
    | true => rw [eq_of_beq h2, beq_self_eq_true] at h; exact h.symm
theorem eqbValue_symm (a b : GValue) : eqbValue a b = eqbValue b a := by unfold eqbValue; rw [beq_comm' a.Kind, beq_comm' a.N]
theorem eqbTag_symm (a b : GTag) : eqbTag a b = eqbTag b a := by unfold eqbTag; rw [beq_comm' a.Vat, beq_comm' a.Entity, beq_comm' a.Seq]
theorem eqbAsker_symm (a b : GAsker) : eqbAsker a b = eqbAsker b a := by unfold eqbAsker; rw [beq_comm' a.Peer, beq_comm' a.Question]
theorem eqbSent'_symm (a b : GSent) : eqbSent' a b = eqbSent' b a := by
  unfold eqbSent'; rw [beq_comm' a.Target, beq_comm' a.Name.toList, sameL_symm eqbValue_symm a.Args, beq_comm' a.Result, eqbTag_symm a.Tag]
theorem sameEntity_symm (a b : GEntity) : sameEntity a b = sameEntity b a := by
  unfold sameEntity sameSents
  rw [beq_comm' a.Kind, beq_comm' a.Script, sameL_symm eqbValue_symm a.Slots, beq_comm' a.State, eqbValue_symm a.Value, sameL_symm eqbSent'_symm a.Queue, sameL_symm eqbAsker_symm a.Askers, beq_comm' a.Peer, beq_comm' a.Pos, beq_comm' a.Count, beq_comm' a.Sent]
theorem entity_new : entityB newPromise 1 = true := by decide +kernel
theorem pend_new : pendB newPromise = true := by decide +kernel
theorem slot_in (s : Int) (l : List GValue) (i : Nat) (x : GValue) (h : l[i]? = some x) : slotOf (newObject s l) i = x := by
  have hi := (List.getElem?_eq_some_iff.1 h).1
  unfold slotOf newObject
  dsimp only
  rw [if_pos ⟨by omega, by omega⟩, Int.toNat_natCast, h]; rfl
theorem slot_out (s : Int) (l : List GValue) : slotOf (newObject s l) l.length = ⟨0, 0⟩ := by
  unfold slotOf newObject
  dsimp only
  rw [if_neg (by omega)]; rfl
theorem siz_new (s : Int) (l : List GValue) (h : l.length ≤ 3) : sizL (eEntity (newObject s l)) ≤ 1048576 := by
  rw [siz_eEntity]
  have h1 := sizV l
  simp only [newObject, zEntity, List.flatMap_nil, sizL_nil, List.length_nil]
  omega
set_option maxHeartbeats 25600000 in
set_option maxRecDepth 100000 in
theorem FnEntities_calls (w : World) (vaB : Value) (aB : List UInt8) (raB : RdW w (.s aB.length (aB.flatMap eByte)) vaB) :
    Calls Try.prog 4 #[vaB] w fun e w' => e = .returned (.bool true) ∧ Below w.heap.size w w' := by
  obtain ⟨AaB, caB, rfl, -⟩ := raB.slice
  have ARaB := Lib.hid raB
  clear raB
  go_enter Try.func4, Try.ntmps4
  by_cases hlenaB : (1048576 : Int) < aB.length
  · go_wp2_with fail
    refine (laws_big_calls' _ _ _ _ hlenaB).mono ?_
    rintro e w0 ⟨rfl, rfl⟩
    go_wp2
    go_ret
    exact ⟨rfl, (Below.refl _ _)⟩
  have hszaB : aB.length ≤ 1048576 := by omega
  go_wp2_with fail
  refine (laws_big_calls _ _ _ _ hszaB).mono ?_
  rintro e w0 ⟨rfl, hw0⟩
  have hw0' := hw0.symm
  subst hw0'
  clear hw0
  go_wp2_with fail
  refine (spec_DrawIsEntity_calls _ aB _ ARaB.out hszaB).mono ?_
  rintro e w1 ⟨x, v2, v6, v7, n, he, hx, hsx, hn0, hn1, hb1⟩
  obtain ⟨_, _, _, hu, o2, o6, o7⟩ := rd_eEntity hx
  unfold entC at hu
  injection hu with _ hu; injection hu with _ hu; injection hu with e2 hu; injection hu with _ hu; injection hu with _ hu; injection hu with _ hu; injection hu with e6 hu; injection hu with e7 _
  subst e2 e6 e7
  obtain ⟨A2, A2c, rfl, -⟩ := o2.slice
  obtain ⟨A6, A6c, rfl, -⟩ := o6.slice
  obtain ⟨A7, A7c, rfl, -⟩ := o7.slice
  unfold entC at he
  subst he
  obtain ⟨wa, hwa⟩ : ∃ q, q = w1.alloc (.cells #[.int .i64 x.Kind, .int .i64 x.Script, .slice A2 x.Slots.length A2c, .int .i64 x.State, .int .i64 x.Value.Kind, .int .i64 x.Value.N, .slice A6 x.Queue.length A6c, .slice A7 x.Askers.length A7c, .int .i64 x.Peer, .int .i64 x.Pos, .int .i64 x.Count, .int .i64 x.Sent] 37) := ⟨_, rfl⟩
  have HX : Hid (RdLW wa (eEntity x) [.int .i64 x.Kind, .int .i64 x.Script, .slice A2 x.Slots.length A2c, .int .i64 x.State, .int .i64 x.Value.Kind, .int .i64 x.Value.N, .slice A6 x.Queue.length A6c, .slice A7 x.Askers.length A7c, .int .i64 x.Peer, .int .i64 x.Pos, .int .i64 x.Count, .int .i64 x.Sent]) := by rw [hwa]; exact hx.below ((Below.refl _ _).alloc (Nat.le_refl _) _)
  have HKE : Hid (Blk wa w1.heap.size 37 #[.int .i64 x.Kind, .int .i64 x.Script, .slice A2 x.Slots.length A2c, .int .i64 x.State, .int .i64 x.Value.Kind, .int .i64 x.Value.N, .slice A6 x.Queue.length A6c, .slice A7 x.Askers.length A7c, .int .i64 x.Peer, .int .i64 x.Pos, .int .i64 x.Count, .int .i64 x.Sent]) := by rw [hwa]; exact Blk.new w1 _ _
  have HBA : Hid (Below w.heap.size w wa) := by rw [hwa]; exact hb1.alloc hb1.size _
  have HSX := Lib.hid hsx
  have hza : wa.heap.size = w1.heap.size + 1 := by rw [hwa]; simp
  have hz1 := hb1.size
  clear o2 o6 o7 hx hb1 hsx
  go_wp2_with fail
  rw [← hwa]
  clear hwa
  refine (spec_DrawEqualEntities_calls _ aB _ (ARaB.out.below HBA.out) hszaB).mono ?_
  rintro e w2 ⟨a, b, v2, v6, v7, u2, u6, u7, he, ha, hb, hsa, hsb, hb2⟩
  obtain ⟨_, _, _, hu, o2, o6, o7⟩ := rd_eEntity ha
  unfold entC at hu
  injection hu with _ hu; injection hu with _ hu; injection hu with e2 hu; injection hu with _ hu; injection hu with _ hu; injection hu with _ hu; injection hu with e6 hu; injection hu with e7 _
  subst e2 e6 e7
  obtain ⟨B2, B2c, rfl, -⟩ := o2.slice
  obtain ⟨B6, B6c, rfl, -⟩ := o6.slice
  obtain ⟨B7, B7c, rfl, -⟩ := o7.slice
  clear o2 o6 o7
  obtain ⟨_, _, _, hu, o2, o6, o7⟩ := rd_eEntity hb
  unfold entC at hu
  injection hu with _ hu; injection hu with _ hu; injection hu with e2 hu; injection hu with _ hu; injection hu with _ hu; injection hu with _ hu; injection hu with e6 hu; injection hu with e7 _
  subst e2 e6 e7
  obtain ⟨C2, C2c, rfl, -⟩ := o2.slice
  obtain ⟨C6, C6c, rfl, -⟩ := o6.slice
  obtain ⟨C7, C7c, rfl, -⟩ := o7.slice
  clear o2 o6 o7
  unfold entC at he
  subst he
  have HKE2 := Lib.hid (HKE.out.below hb2)
  have hz2 := hb2.size
  have HX2 := Lib.hid (HX.out.below hb2)
  have HA2 := Lib.hid ha
  have HB2 := Lib.hid hb
  have HSA := Lib.hid hsa
  have HSB := Lib.hid hsb
  have HBL2 := Lib.hid (HBA.out.trans (hb2.mono (by omega)))
  clear ha hb hsa hsb hb2 HKE HX
  obtain ⟨w3, hw3⟩ : ∃ q, q = (w2.alloc (.cells #[.int .i64 a.Kind, .int .i64 a.Script, .slice B2 a.Slots.length B2c, .int .i64 a.State, .int .i64 a.Value.Kind, .int .i64 a.Value.N, .slice B6 a.Queue.length B6c, .slice B7 a.Askers.length B7c, .int .i64 a.Peer, .int .i64 a.Pos, .int .i64 a.Count, .int .i64 a.Sent] 37)).alloc (.cells #[.int .i64 b.Kind, .int .i64 b.Script, .slice C2 b.Slots.length C2c, .int .i64 b.State, .int .i64 b.Value.Kind, .int .i64 b.Value.N, .slice C6 b.Queue.length C6c, .slice C7 b.Askers.length C7c, .int .i64 b.Peer, .int .i64 b.Pos, .int .i64 b.Count, .int .i64 b.Sent] 37) := ⟨_, rfl⟩
  have hbz : Below w2.heap.size w2 w3 := by rw [hw3]; exact ((Below.refl w2.heap.size w2).alloc (Nat.le_refl _) _).alloc (by simp) _
  have HKA3 : Hid (Blk w3 w2.heap.size 37 #[.int .i64 a.Kind, .int .i64 a.Script, .slice B2 a.Slots.length B2c, .int .i64 a.State, .int .i64 a.Value.Kind, .int .i64 a.Value.N, .slice B6 a.Queue.length B6c, .slice B7 a.Askers.length B7c, .int .i64 a.Peer, .int .i64 a.Pos, .int .i64 a.Count, .int .i64 a.Sent]) := by rw [hw3]; exact (Blk.new w2 _ _).alloc _
  have HKB3 : Hid (Blk w3 (w2.heap.size + 1) 37 #[.int .i64 b.Kind, .int .i64 b.Script, .slice C2 b.Slots.length C2c, .int .i64 b.State, .int .i64 b.Value.Kind, .int .i64 b.Value.N, .slice C6 b.Queue.length C6c, .slice C7 b.Askers.length C7c, .int .i64 b.Peer, .int .i64 b.Pos, .int .i64 b.Count, .int .i64 b.Sent]) := by rw [hw3]; exact Blk.made (by simp)
  have HKE3 := Lib.hid (HKE2.out.below (hbz.mono (by omega)))
  have HX3 := Lib.hid (HX2.out.below hbz)
  have HA3 := Lib.hid (HA2.out.below hbz)
  have HB3 := Lib.hid (HB2.out.below hbz)
  have HBL3 := Lib.hid (HBL2.out.trans (hbz.mono (by omega)))
  have hz3 : w3.heap.size = w2.heap.size + 2 := by rw [hw3]; simp
  clear hbz HKE2 HX2 HA2 HB2 HBL2
  go_wp2_with fail
  rw [← hw3]
  clear hw3
  refine (spec_DrawNewObject_calls _ aB _ (ARaB.out.below HBL3.out) hszaB).mono ?_
  rintro e w4 ⟨s, xs, D, Dc, rfl, hs0, hs1, hxl, hxs, hb4⟩
  have HKE4 := Lib.hid (HKE3.out.below hb4)
  have HKA4 := Lib.hid (HKA3.out.below hb4)
  have HKB4 := Lib.hid (HKB3.out.below hb4)
  have HX4 := Lib.hid (HX3.out.below hb4)
  have HA4 := Lib.hid (HA3.out.below hb4)
  have HB4 := Lib.hid (HB3.out.below hb4)
  have HXS4 := Lib.hid hxs
  have hz4 := hb4.size
  have HBL4 := Lib.hid (HBL3.out.trans (hb4.mono (by omega)))
  clear hxs hb4 HKE3 HKA3 HKB3 HX3 HA3 HB3 HBL3
  go_wp2_with fail
  refine (impl_NewObject_calls s _ xs _ HXS4.out (by have h := sizV xs; omega) ⟨by omega, by omega⟩).mono ?_
  rintro e w5 ⟨us', fp, rfl, ho, hfr, hb5⟩
  have HSL : Hid (∀ (i : Nat) y, xs[i]? = some y → slotOf (newObject s xs) i = y) := fun i y h => slot_in s xs i y h
  have HSN : Hid (slotOf (newObject s xs) xs.length = ⟨0, 0⟩) := slot_out s xs
  have HZM : Hid (sizL (eEntity (newObject s xs)) ≤ 1048576) := siz_new s xs hxl
  generalize newObject s xs = m at *
  have ho' := ho.rdw
  have HO5 := Lib.hid ho'
  obtain ⟨m2, m6, m7, rfl, o2, o6, o7⟩ := rd_eEntity ho'
  obtain ⟨M2, M2c, rfl, -⟩ := o2.slice
  obtain ⟨M6, M6c, rfl, -⟩ := o6.slice
  obtain ⟨M7, M7c, rfl, -⟩ := o7.slice
  clear o2 o6 o7 ho ho' hfr
  obtain ⟨w6, hw6⟩ : ∃ q, q = w5.alloc (.cells #[.int .i64 m.Kind, .int .i64 m.Script, .slice M2 m.Slots.length M2c, .int .i64 m.State, .int .i64 m.Value.Kind, .int .i64 m.Value.N, .slice M6 m.Queue.length M6c, .slice M7 m.Askers.length M7c, .int .i64 m.Peer, .int .i64 m.Pos, .int .i64 m.Count, .int .i64 m.Sent] 37) := ⟨_, rfl⟩
  have hb6 : Below w4.heap.size w4 w6 := by rw [hw6]; exact hb5.alloc hb5.size _
  have HKM : Hid (Blk w6 w5.heap.size 37 #[.int .i64 m.Kind, .int .i64 m.Script, .slice M2 m.Slots.length M2c, .int .i64 m.State, .int .i64 m.Value.Kind, .int .i64 m.Value.N, .slice M6 m.Queue.length M6c, .slice M7 m.Askers.length M7c, .int .i64 m.Peer, .int .i64 m.Pos, .int .i64 m.Count, .int .i64 m.Sent]) := by rw [hw6]; exact Blk.new w5 _ _
  have HM : Hid (RdLW w6 (eEntity m) [.int .i64 m.Kind, .int .i64 m.Script, .slice M2 m.Slots.length M2c, .int .i64 m.State, .int .i64 m.Value.Kind, .int .i64 m.Value.N, .slice M6 m.Queue.length M6c, .slice M7 m.Askers.length M7c, .int .i64 m.Peer, .int .i64 m.Pos, .int .i64 m.Count, .int .i64 m.Sent]) := by rw [hw6]; exact HO5.out.below ((Below.refl _ _).alloc (Nat.le_refl _) _)
  have HKE := Lib.hid (HKE4.out.below hb6)
  have HKA := Lib.hid (HKA4.out.below hb6)
  have HKB := Lib.hid (HKB4.out.below hb6)
  have HX := Lib.hid (HX4.out.below hb6)
  have HA := Lib.hid (HA4.out.below hb6)
  have HB := Lib.hid (HB4.out.below hb6)
  have HXS := Lib.hid (HXS4.out.below hb6)
  have HBL := Lib.hid (HBL4.out.trans (hb6.mono (by omega)))
  have hz6 : w6.heap.size = w5.heap.size + 1 := by rw [hw6]; simp
  have hz5 := hb5.size
  clear hb6 hb5 HO5 HKE4 HKA4 HKB4 HX4 HA4 HB4 HXS4 HBL4
  have HXE : Hid (xs.length ≤ 3) := hxl
  go_wp2
  rw [← hw6]
  clear hw6
  go_loopw [10] (fun a wr => ∃ i : Nat, i ≤ xs.length ∧ a = .int .i64 i ∧ Hid (Below w6.heap.size w6 wr)) (fun a wr => xs.length - (intOf a).toNat)
  case atStart => exact ⟨0, by omega, rfl, Below.refl _ _⟩
  case round =>
    obtain ⟨i, hi, rfl, HBW⟩ := hrel
    by_cases hlt : i < xs.length
    · obtain ⟨y, hy⟩ : ∃ y, xs[i]? = some y := ⟨xs[i], List.getElem?_eq_getElem hlt⟩
      obtain ⟨ad, rfl, hab, q0, q1⟩ := row_eValue (HXS.out.below HBW.out) hy
      have hab' : (ad.add (i * 2)).block < wr.heap.size := by rw [block_of_add]; exact hab
      have HS := Lib.hid (HSL.out i y hy)
      have gne := fun w => run_neq_Value y y w
      rw [eqbValue_refl] at gne
      simp only [Bool.not_true] at gne
      have HMr := Lib.hid ((HM.out.below HBW.out).below (Below.refl _ _).drew)
      have HKr := Lib.hid (HKM.out.below HBW.out)
      have hzw := HBW.out.size
      clear hy
      go_wp2
      refine wp_region_U (fun wq => Blk wq w5.heap.size 37 #[.int .i64 m.Kind, .int .i64 m.Script, .slice M2 m.Slots.length M2c, .int .i64 m.State, .int .i64 m.Value.Kind, .int .i64 m.Value.N, .slice M6 m.Queue.length M6c, .slice M7 m.Askers.length M7c, .int .i64 m.Peer, .int .i64 m.Pos, .int .i64 m.Count, .int .i64 m.Sent] ∧ (ad.add (i * 2)).block < wq.heap.size ∧ wq.cell? (ad.add (i * 2)) = some (.int .i64 y.Kind) ∧ wq.cell? ⟨(ad.add (i * 2)).block, (ad.add (i * 2)).off + 1, none⟩ = some (.int .i64 y.N)) [2, 5, 6, 7] (by kernel_rfl) ?_
      have hH_ := (⟨HKr.out.drew, hab', q0, q1⟩ : (fun wq => Blk wq w5.heap.size 37 #[.int .i64 m.Kind, .int .i64 m.Script, .slice M2 m.Slots.length M2c, .int .i64 m.State, .int .i64 m.Value.Kind, .int .i64 m.Value.N, .slice M6 m.Queue.length M6c, .slice M7 m.Askers.length M7c, .int .i64 m.Peer, .int .i64 m.Pos, .int .i64 m.Count, .int .i64 m.Sent] ∧ (ad.add (i * 2)).block < wq.heap.size ∧ wq.cell? (ad.add (i * 2)) = some (.int .i64 y.Kind) ∧ wq.cell? ⟨(ad.add (i * 2)).block, (ad.add (i * 2)).off + 1, none⟩ = some (.int .i64 y.N)) _)
      refine wpAnyU_take (i := 0) (v := ?_) rfl (by kernel_rfl) (by kernel_rfl) (by kernel_rfl) (by kernel_rfl) (fun _ _ _ h => h) (Or.inl ⟨by rfl, ?_⟩) hH_ ?_
      rotate_left
      · (intro w hSw; (try dsimp only at hSw); (obtain ⟨kc0, kf0⟩ := (hSw.1).rules; go_simp <;> with_reducible rfl))
      simp only [Act.put, List.setIfInBounds_toArray, List.set_cons_zero, List.set_cons_succ]
      refine wpAnyU_take (i := 1) (v := ?_) rfl (by kernel_rfl) (by kernel_rfl) (by kernel_rfl) (by kernel_rfl) (fun _ _ _ h => h) (Or.inl ⟨by rfl, ?_⟩) hH_ ?_
      rotate_left
      · (intro w hSw; (try dsimp only at hSw); go_simp <;> with_reducible rfl)
      simp only [Act.put, List.setIfInBounds_toArray, List.set_cons_zero, List.set_cons_succ]
      refine wpAnyU_take (i := 3) (v := ?_) rfl (by kernel_rfl) (by kernel_rfl) (by kernel_rfl) (by kernel_rfl) (fun _ _ _ h => h) (Or.inl ⟨by rfl, ?_⟩) hH_ ?_
      rotate_left
      · (intro w hSw; (try dsimp only at hSw); go_simp <;> with_reducible rfl)
      simp only [Act.put, List.setIfInBounds_toArray, List.set_cons_zero, List.set_cons_succ]
      refine wpAnyU_take (i := 4) (v := ?_) rfl (by kernel_rfl) (by kernel_rfl) (by kernel_rfl) (by kernel_rfl) (fun _ _ _ h => h) (Or.inl ⟨by rfl, ?_⟩) hH_ ?_
      rotate_left
      · (intro w hSw; (try dsimp only at hSw); go_simp <;> with_reducible rfl)
      simp only [Act.put, List.setIfInBounds_toArray, List.set_cons_zero, List.set_cons_succ]
      refine wpAnyU_take (i := 5) (v := ?_) rfl (by kernel_rfl) (by kernel_rfl) (by kernel_rfl) (by kernel_rfl) (fun _ _ _ h => h) (Or.inl ⟨by rfl, ?_⟩) hH_ ?_
      rotate_left
      · (intro w hSw; (try dsimp only at hSw); go_simp <;> with_reducible rfl)
      simp only [Act.put, List.setIfInBounds_toArray, List.set_cons_zero, List.set_cons_succ]
      refine wpAnyU_take (i := 6) (v := ?_) rfl (by kernel_rfl) (by kernel_rfl) (by kernel_rfl) (by kernel_rfl) (fun _ _ _ h => h) (Or.inl ⟨by rfl, ?_⟩) hH_ ?_
      rotate_left
      · (intro w hSw; (try dsimp only at hSw); (have c1 := hSw.2.2.1; have c2 := hSw.2.2.2; go_simp <;> with_reducible rfl))
      simp only [Act.put, List.setIfInBounds_toArray, List.set_cons_zero, List.set_cons_succ]
      refine wpAnyU_one (i := 2) (by kernel_rfl) rfl (fun K hK => ?_)
      go_simp
      refine (impl_SlotOf_calls _ m i _ HMr.out HZM.out ⟨by omega, by omega⟩).mono ?_
      rintro e w7 ⟨us7, fp7, rfl, ho7, _, hb7⟩
      rw [HS.out] at ho7
      obtain rfl := rd_eValue ho7.rdw
      have hs7 := hb7.size
      have HB7 : Hid (Below w6.heap.size w6 w7) := (HBW.out.drew).trans (hb7.mono hzw)
      refine hK.out _ _ ?_ (fun hH1_ => ?_)
      · exact ⟨hH_.1.below hb7, Nat.lt_of_lt_of_le hH_.2.1 hs7, cell_below hb7 hH_.2.2.1 hH_.2.1, cell_below hb7 hH_.2.2.2 hH_.2.1⟩
      clear hK K hH_
      have hH_ := hH1_
      clear hH1_
      refine wpAnyU_one' (i := 7) (by kernel_rfl) rfl (by kernel_rfl) (fun K hK => ?_)
      go_simp
      refine hK.out _ _ ?_
      clear hK K
      refine wpAnyU_done (by kernel_rfl) ?_ _
      go_wp2
      go_roundw
      case rel => exact ⟨i + 1, by omega, by go_num, HB7⟩
      case measure => simp [intOf]; omega
    · have : i = xs.length := by omega
      subst this
      have HXr := Lib.hid ((HX.out.below HBW.out).below (Below.refl _ _).drew)
      have HAr := Lib.hid ((HA.out.below HBW.out).below (Below.refl _ _).drew)
      have HBr := Lib.hid ((HB.out.below HBW.out).below (Below.refl _ _).drew)
      have HMr := Lib.hid ((HM.out.below HBW.out).below (Below.refl _ _).drew)
      have HKEr := Lib.hid (HKE.out.below HBW.out)
      have HKAr := Lib.hid (HKA.out.below HBW.out)
      have HKBr := Lib.hid (HKB.out.below HBW.out)
      have HKMr := Lib.hid (HKM.out.below HBW.out)
      have hBL0 : Below w.heap.size w wr.drew := (HBL.out.trans (HBW.out.mono HBL.out.size)).drew
      have HBLr := Lib.hid hBL0
      have gz := fun w => run_eql_Value ⟨0, 0⟩ ⟨0, 0⟩ w
      rw [eqbValue_refl] at gz
      clear HX HA HB HM HKE HKA HKB HKM HBL HBW HXS hBL0
      go_wp2
      refine wp_region_U (fun wq => Blk wq w1.heap.size 37 #[.int .i64 x.Kind, .int .i64 x.Script, .slice A2 x.Slots.length A2c, .int .i64 x.State, .int .i64 x.Value.Kind, .int .i64 x.Value.N, .slice A6 x.Queue.length A6c, .slice A7 x.Askers.length A7c, .int .i64 x.Peer, .int .i64 x.Pos, .int .i64 x.Count, .int .i64 x.Sent] ∧ Blk wq w2.heap.size 37 #[.int .i64 a.Kind, .int .i64 a.Script, .slice B2 a.Slots.length B2c, .int .i64 a.State, .int .i64 a.Value.Kind, .int .i64 a.Value.N, .slice B6 a.Queue.length B6c, .slice B7 a.Askers.length B7c, .int .i64 a.Peer, .int .i64 a.Pos, .int .i64 a.Count, .int .i64 a.Sent] ∧ Blk wq (w2.heap.size + 1) 37 #[.int .i64 b.Kind, .int .i64 b.Script, .slice C2 b.Slots.length C2c, .int .i64 b.State, .int .i64 b.Value.Kind, .int .i64 b.Value.N, .slice C6 b.Queue.length C6c, .slice C7 b.Askers.length C7c, .int .i64 b.Peer, .int .i64 b.Pos, .int .i64 b.Count, .int .i64 b.Sent] ∧ Blk wq w5.heap.size 37 #[.int .i64 m.Kind, .int .i64 m.Script, .slice M2 m.Slots.length M2c, .int .i64 m.State, .int .i64 m.Value.Kind, .int .i64 m.Value.N, .slice M6 m.Queue.length M6c, .slice M7 m.Askers.length M7c, .int .i64 m.Peer, .int .i64 m.Pos, .int .i64 m.Count, .int .i64 m.Sent]) [0, 1, 2, 3, 4, 5, 6, 7, 8, 9, 10, 11, 12, 13, 14, 15, 16, 17, 18, 19, 20, 21, 22, 23, 24, 25, 26, 27, 28, 29, 30, 31, 32, 33, 34, 35, 36, 37, 38] (by kernel_rfl) ?_
      have hH_ := (⟨HKEr.out.drew, HKAr.out.drew, HKBr.out.drew, HKMr.out.drew⟩ : (fun wq => Blk wq w1.heap.size 37 #[.int .i64 x.Kind, .int .i64 x.Script, .slice A2 x.Slots.length A2c, .int .i64 x.State, .int .i64 x.Value.Kind, .int .i64 x.Value.N, .slice A6 x.Queue.length A6c, .slice A7 x.Askers.length A7c, .int .i64 x.Peer, .int .i64 x.Pos, .int .i64 x.Count, .int .i64 x.Sent] ∧ Blk wq w2.heap.size 37 #[.int .i64 a.Kind, .int .i64 a.Script, .slice B2 a.Slots.length B2c, .int .i64 a.State, .int .i64 a.Value.Kind, .int .i64 a.Value.N, .slice B6 a.Queue.length B6c, .slice B7 a.Askers.length B7c, .int .i64 a.Peer, .int .i64 a.Pos, .int .i64 a.Count, .int .i64 a.Sent] ∧ Blk wq (w2.heap.size + 1) 37 #[.int .i64 b.Kind, .int .i64 b.Script, .slice C2 b.Slots.length C2c, .int .i64 b.State, .int .i64 b.Value.Kind, .int .i64 b.Value.N, .slice C6 b.Queue.length C6c, .slice C7 b.Askers.length C7c, .int .i64 b.Peer, .int .i64 b.Pos, .int .i64 b.Count, .int .i64 b.Sent] ∧ Blk wq w5.heap.size 37 #[.int .i64 m.Kind, .int .i64 m.Script, .slice M2 m.Slots.length M2c, .int .i64 m.State, .int .i64 m.Value.Kind, .int .i64 m.Value.N, .slice M6 m.Queue.length M6c, .slice M7 m.Askers.length M7c, .int .i64 m.Peer, .int .i64 m.Pos, .int .i64 m.Count, .int .i64 m.Sent]) _)
      refine wpAnyU_take (i := 0) (v := ?_) rfl (by kernel_rfl) (by kernel_rfl) (by kernel_rfl) (by kernel_rfl) (fun _ _ _ h => h) (Or.inl ⟨by rfl, ?_⟩) hH_ ?_
      rotate_left
      · (intro w hSw; (try dsimp only at hSw); (obtain ⟨kc0, kf0⟩ := (hSw.1).rules; go_simp <;> with_reducible rfl))
      simp only [Act.put, List.setIfInBounds_toArray, List.set_cons_zero, List.set_cons_succ]
      refine wpAnyU_take (i := 1) (v := ?_) rfl (by kernel_rfl) (by kernel_rfl) (by kernel_rfl) (by kernel_rfl) (fun _ _ _ h => h) (Or.inl ⟨by rfl, ?_⟩) hH_ ?_
      rotate_left
      · (intro w hSw; (try dsimp only at hSw); go_simp <;> with_reducible rfl)
      simp only [Act.put, List.setIfInBounds_toArray, List.set_cons_zero, List.set_cons_succ]
      refine wpAnyU_take (i := 3) (v := ?_) rfl (by kernel_rfl) (by kernel_rfl) (by kernel_rfl) (by kernel_rfl) (fun _ _ _ h => h) (Or.inl ⟨by rfl, ?_⟩) hH_ ?_
      rotate_left
      · (intro w hSw; (try dsimp only at hSw); (obtain ⟨kc0, kf0⟩ := (hSw.1).rules; go_simp <;> with_reducible rfl))
      simp only [Act.put, List.setIfInBounds_toArray, List.set_cons_zero, List.set_cons_succ]
      refine wpAnyU_take (i := 4) (v := ?_) rfl (by kernel_rfl) (by kernel_rfl) (by kernel_rfl) (by kernel_rfl) (fun _ _ _ h => h) (Or.inl ⟨by rfl, ?_⟩) hH_ ?_
      rotate_left
      · (intro w hSw; (try dsimp only at hSw); go_simp <;> with_reducible rfl)
      simp only [Act.put, List.setIfInBounds_toArray, List.set_cons_zero, List.set_cons_succ]
      refine wpAnyU_one (i := 2) (by kernel_rfl) rfl (fun K hK => ?_)
      go_simp
      refine (impl_IsEntity_calls _ x n _ HXr.out HSX.out.1 HSX.out.2.1 hn0 hn1).mono ?_
      rintro e wc2 ⟨rfl, hb_2⟩
      replace HXr := Lib.hid (HXr.out.below hb_2)
      replace HAr := Lib.hid (HAr.out.below hb_2)
      replace HBr := Lib.hid (HBr.out.below hb_2)
      replace HMr := Lib.hid (HMr.out.below hb_2)
      replace HBLr := Lib.hid (HBLr.out.trans (hb_2.mono HBLr.out.size))
      refine hK.out _ _ ?_ (fun hH1_ => ?_)
      · exact ⟨hH_.1.below hb_2, hH_.2.1.below hb_2, hH_.2.2.1.below hb_2, hH_.2.2.2.below hb_2⟩
      clear hK K hH_
      have hH_ := hH1_
      clear hH1_
      refine wpAnyU_one (i := 5) (by kernel_rfl) rfl (fun K hK => ?_)
      go_simp
      refine (spec_IsEntity_calls _ x n _ HXr.out HSX.out.1 HSX.out.2.1 hn0 hn1).mono ?_
      rintro e wc5 ⟨rfl, hb_5⟩
      replace HXr := Lib.hid (HXr.out.below hb_5)
      replace HAr := Lib.hid (HAr.out.below hb_5)
      replace HBr := Lib.hid (HBr.out.below hb_5)
      replace HMr := Lib.hid (HMr.out.below hb_5)
      replace HBLr := Lib.hid (HBLr.out.trans (hb_5.mono HBLr.out.size))
      refine hK.out _ _ ?_ (fun hH1_ => ?_)
      · exact ⟨hH_.1.below hb_5, hH_.2.1.below hb_5, hH_.2.2.1.below hb_5, hH_.2.2.2.below hb_5⟩
      clear hK K hH_
      have hH_ := hH1_
      clear hH1_
      refine wpAnyU_take (i := 6) (v := ?_) rfl (by kernel_rfl) (by kernel_rfl) (by kernel_rfl) (by kernel_rfl) (fun _ _ _ h => h) (Or.inl ⟨by rfl, ?_⟩) hH_ ?_
      rotate_left
      · (intro w hSw; (try dsimp only at hSw); go_simp <;> with_reducible rfl)
      simp only [Act.put, List.setIfInBounds_toArray, List.set_cons_zero, List.set_cons_succ]
      refine wpAnyU_take (i := 7) (v := ?_) rfl (by kernel_rfl) (by kernel_rfl) (by kernel_rfl) (by kernel_rfl) (fun _ _ _ h => h) (Or.inl ⟨by rfl, ?_⟩) hH_ ?_
      rotate_left
      · (intro w hSw; (try dsimp only at hSw); go_simp <;> with_reducible rfl)
      simp only [Act.put, List.setIfInBounds_toArray, List.set_cons_zero, List.set_cons_succ]
      refine wpAnyU_take (i := 8) (v := ?_) rfl (by kernel_rfl) (by kernel_rfl) (by kernel_rfl) (by kernel_rfl) (fun _ _ _ h => h) (Or.inl ⟨by rfl, ?_⟩) hH_ ?_
      rotate_left
      · (intro w hSw; (try dsimp only at hSw); (obtain ⟨kc0, kf0⟩ := (hSw.2.1).rules; go_simp <;> with_reducible rfl))
      simp only [Act.put, List.setIfInBounds_toArray, List.set_cons_zero, List.set_cons_succ]
      refine wpAnyU_take (i := 9) (v := ?_) rfl (by kernel_rfl) (by kernel_rfl) (by kernel_rfl) (by kernel_rfl) (fun _ _ _ h => h) (Or.inl ⟨by rfl, ?_⟩) hH_ ?_
      rotate_left
      · (intro w hSw; (try dsimp only at hSw); (obtain ⟨kc0, kf0⟩ := (hSw.2.2.1).rules; go_simp <;> with_reducible rfl))
      simp only [Act.put, List.setIfInBounds_toArray, List.set_cons_zero, List.set_cons_succ]
      refine wpAnyU_take (i := 11) (v := ?_) rfl (by kernel_rfl) (by kernel_rfl) (by kernel_rfl) (by kernel_rfl) (fun _ _ _ h => h) (Or.inl ⟨by rfl, ?_⟩) hH_ ?_
      rotate_left
      · (intro w hSw; (try dsimp only at hSw); (obtain ⟨kc0, kf0⟩ := (hSw.2.2.1).rules; go_simp <;> with_reducible rfl))
      simp only [Act.put, List.setIfInBounds_toArray, List.set_cons_zero, List.set_cons_succ]
      refine wpAnyU_take (i := 12) (v := ?_) rfl (by kernel_rfl) (by kernel_rfl) (by kernel_rfl) (by kernel_rfl) (fun _ _ _ h => h) (Or.inl ⟨by rfl, ?_⟩) hH_ ?_
      rotate_left
      · (intro w hSw; (try dsimp only at hSw); (obtain ⟨kc0, kf0⟩ := (hSw.2.1).rules; go_simp <;> with_reducible rfl))
      simp only [Act.put, List.setIfInBounds_toArray, List.set_cons_zero, List.set_cons_succ]
      refine wpAnyU_one (i := 10) (by kernel_rfl) rfl (fun K hK => ?_)
      go_simp
      refine (impl_EqualEntities_calls _ a _ b _ HAr.out HBr.out (small_siz HSA.out) (small_siz HSB.out)).mono ?_
      rintro e wc10 ⟨rfl, hb_10⟩
      replace HXr := Lib.hid (HXr.out.below hb_10)
      replace HAr := Lib.hid (HAr.out.below hb_10)
      replace HBr := Lib.hid (HBr.out.below hb_10)
      replace HMr := Lib.hid (HMr.out.below hb_10)
      replace HBLr := Lib.hid (HBLr.out.trans (hb_10.mono HBLr.out.size))
      refine hK.out _ _ ?_ (fun hH1_ => ?_)
      · exact ⟨hH_.1.below hb_10, hH_.2.1.below hb_10, hH_.2.2.1.below hb_10, hH_.2.2.2.below hb_10⟩
      clear hK K hH_
      have hH_ := hH1_
      clear hH1_
      refine wpAnyU_one (i := 13) (by kernel_rfl) rfl (fun K hK => ?_)
      go_simp
      refine (impl_EqualEntities_calls _ b _ a _ HBr.out HAr.out (small_siz HSB.out) (small_siz HSA.out)).mono ?_
      rintro e wc13 ⟨rfl, hb_13⟩
      rw [sameEntity_symm b a]
      replace HXr := Lib.hid (HXr.out.below hb_13)
      replace HAr := Lib.hid (HAr.out.below hb_13)
      replace HBr := Lib.hid (HBr.out.below hb_13)
      replace HMr := Lib.hid (HMr.out.below hb_13)
      replace HBLr := Lib.hid (HBLr.out.trans (hb_13.mono HBLr.out.size))
      refine hK.out _ _ ?_ (fun hH1_ => ?_)
      · exact ⟨hH_.1.below hb_13, hH_.2.1.below hb_13, hH_.2.2.1.below hb_13, hH_.2.2.2.below hb_13⟩
      clear hK K hH_
      have hH_ := hH1_
      clear hH1_
      refine wpAnyU_take (i := 14) (v := ?_) rfl (by kernel_rfl) (by kernel_rfl) (by kernel_rfl) (by kernel_rfl) (fun _ _ _ h => h) (Or.inl ⟨by rfl, ?_⟩) hH_ ?_
      rotate_left
      · (intro w hSw; (try dsimp only at hSw); go_simp <;> with_reducible rfl)
      simp only [Act.put, List.setIfInBounds_toArray, List.set_cons_zero, List.set_cons_succ]
      refine wpAnyU_take (i := 15) (v := ?_) rfl (by kernel_rfl) (by kernel_rfl) (by kernel_rfl) (by kernel_rfl) (fun _ _ _ h => h) (Or.inl ⟨by rfl, ?_⟩) hH_ ?_
      rotate_left
      · (intro w hSw; (try dsimp only at hSw); go_simp <;> with_reducible rfl)
      simp only [Act.put, List.setIfInBounds_toArray, List.set_cons_zero, List.set_cons_succ]
      refine wpAnyU_take (i := 16) (v := ?_) rfl (by kernel_rfl) (by kernel_rfl) (by kernel_rfl) (by kernel_rfl) (fun _ _ _ h => h) (Or.inl ⟨by rfl, ?_⟩) hH_ ?_
      rotate_left
      · (intro w hSw; (try dsimp only at hSw); go_simp <;> with_reducible rfl)
      simp only [Act.put, List.setIfInBounds_toArray, List.set_cons_zero, List.set_cons_succ]
      refine wpAnyU_take (i := 17) (v := ?_) rfl (by kernel_rfl) (by kernel_rfl) (by kernel_rfl) (by kernel_rfl) (fun _ _ _ h => h) (Or.inl ⟨by rfl, ?_⟩) hH_ ?_
      rotate_left
      · (intro w hSw; (try dsimp only at hSw); (obtain ⟨kc0, kf0⟩ := (hSw.2.2.2).rules; go_simp <;> with_reducible rfl))
      simp only [Act.put, List.setIfInBounds_toArray, List.set_cons_zero, List.set_cons_succ]
      refine wpAnyU_take (i := 18) (v := ?_) rfl (by kernel_rfl) (by kernel_rfl) (by kernel_rfl) (by kernel_rfl) (fun _ _ _ h => h) (Or.inl ⟨by rfl, ?_⟩) hH_ ?_
      rotate_left
      · (intro w hSw; (try dsimp only at hSw); go_simp <;> with_reducible rfl)
      simp only [Act.put, List.setIfInBounds_toArray, List.set_cons_zero, List.set_cons_succ]
      refine wpAnyU_take (i := 19) (v := ?_) rfl (by kernel_rfl) (by kernel_rfl) (by kernel_rfl) (by kernel_rfl) (fun _ _ _ h => h) (Or.inl ⟨by rfl, ?_⟩) hH_ ?_
      rotate_left
      · (intro w hSw; (try dsimp only at hSw); go_simp <;> with_reducible rfl)
      simp only [Act.put, List.setIfInBounds_toArray, List.set_cons_zero, List.set_cons_succ]
      refine wpAnyU_one (i := 20) (by kernel_rfl) rfl (fun K hK => ?_)
      go_simp
      refine (impl_SlotOf_calls _ m xs.length _ HMr.out HZM.out ⟨by have h := HXE.out; omega, by have h := HXE.out; omega⟩).mono ?_
      rintro e wc20 ⟨us20, fp20, rfl, ho20, _, hb_20⟩
      rw [HSN.out] at ho20
      obtain rfl := rd_eValue ho20.rdw
      dsimp only
      replace HXr := Lib.hid (HXr.out.below hb_20)
      replace HAr := Lib.hid (HAr.out.below hb_20)
      replace HBr := Lib.hid (HBr.out.below hb_20)
      replace HMr := Lib.hid (HMr.out.below hb_20)
      replace HBLr := Lib.hid (HBLr.out.trans (hb_20.mono HBLr.out.size))
      refine hK.out _ _ ?_ (fun hH1_ => ?_)
      · exact ⟨hH_.1.below hb_20, hH_.2.1.below hb_20, hH_.2.2.1.below hb_20, hH_.2.2.2.below hb_20⟩
      clear hK K hH_
      have hH_ := hH1_
      clear hH1_
      refine wpAnyU_one (i := 21) (by kernel_rfl) rfl (fun K hK => ?_)
      go_simp
      refine (impl_IntValue0_calls _).mono ?_
      rintro e wc21 ⟨rfl, hb_21⟩
      replace HXr := Lib.hid (HXr.out.below hb_21)
      replace HAr := Lib.hid (HAr.out.below hb_21)
      replace HBr := Lib.hid (HBr.out.below hb_21)
      replace HMr := Lib.hid (HMr.out.below hb_21)
      replace HBLr := Lib.hid (HBLr.out.trans (hb_21.mono HBLr.out.size))
      refine hK.out _ _ ?_ (fun hH1_ => ?_)
      · exact ⟨hH_.1.below hb_21, hH_.2.1.below hb_21, hH_.2.2.1.below hb_21, hH_.2.2.2.below hb_21⟩
      clear hK K hH_
      have hH_ := hH1_
      clear hH1_
      refine wpAnyU_take (i := 22) (v := ?_) rfl (by kernel_rfl) (by kernel_rfl) (by kernel_rfl) (by kernel_rfl) (fun _ _ _ h => h) (Or.inl ⟨by rfl, ?_⟩) hH_ ?_
      rotate_left
      · (intro w hSw; (try dsimp only at hSw); go_simp <;> with_reducible rfl)
      simp only [Act.put, List.setIfInBounds_toArray, List.set_cons_zero, List.set_cons_succ]
      refine wpAnyU_take (i := 23) (v := ?_) rfl (by kernel_rfl) (by kernel_rfl) (by kernel_rfl) (by kernel_rfl) (fun _ _ _ h => h) (Or.inl ⟨by rfl, ?_⟩) hH_ ?_
      rotate_left
      · (intro w hSw; (try dsimp only at hSw); go_simp <;> with_reducible rfl)
      simp only [Act.put, List.setIfInBounds_toArray, List.set_cons_zero, List.set_cons_succ]
      refine wpAnyU_take (i := 24) (v := ?_) rfl (by kernel_rfl) (by kernel_rfl) (by kernel_rfl) (by kernel_rfl) (fun _ _ _ h => h) (Or.inl ⟨by rfl, ?_⟩) hH_ ?_
      rotate_left
      · (intro w hSw; (try dsimp only at hSw); go_simp <;> with_reducible rfl)
      simp only [Act.put, List.setIfInBounds_toArray, List.set_cons_zero, List.set_cons_succ]
      refine wpAnyU_one (i := 25) (by kernel_rfl) rfl (fun K hK => ?_)
      go_simp
      refine (impl_NewPromise_calls _).mono ?_
      rintro e wc25 ⟨us25, fp25, rfl, ho25, _, hb_25⟩
      have HP := Lib.hid ho25.rdw
      replace HXr := Lib.hid (HXr.out.below hb_25)
      replace HAr := Lib.hid (HAr.out.below hb_25)
      replace HBr := Lib.hid (HBr.out.below hb_25)
      replace HMr := Lib.hid (HMr.out.below hb_25)
      replace HBLr := Lib.hid (HBLr.out.trans (hb_25.mono HBLr.out.size))
      refine hK.out _ _ ?_ (fun hH1_ => ?_)
      · exact ⟨hH_.1.below hb_25, hH_.2.1.below hb_25, hH_.2.2.1.below hb_25, hH_.2.2.2.below hb_25⟩
      clear hK K hH_
      have hH_ := hH1_
      clear hH1_
      refine wpAnyU_one (i := 26) (by kernel_rfl) rfl (fun K hK => ?_)
      go_simp
      refine (impl_IsEntity_calls us25 newPromise 1 _ HP.out (by decide) (by decide) (by decide) (by decide)).mono ?_
      rintro e wc26 ⟨rfl, hb_26⟩
      rw [entity_new]
      replace HXr := Lib.hid (HXr.out.below hb_26)
      replace HAr := Lib.hid (HAr.out.below hb_26)
      replace HBr := Lib.hid (HBr.out.below hb_26)
      replace HMr := Lib.hid (HMr.out.below hb_26)
      replace HBLr := Lib.hid (HBLr.out.trans (hb_26.mono HBLr.out.size))
      refine hK.out _ _ ?_ (fun hH1_ => ?_)
      · exact ⟨hH_.1.below hb_26, hH_.2.1.below hb_26, hH_.2.2.1.below hb_26, hH_.2.2.2.below hb_26⟩
      clear hK K hH_
      have hH_ := hH1_
      clear hH1_
      refine wpAnyU_take (i := 27) (v := ?_) rfl (by kernel_rfl) (by kernel_rfl) (by kernel_rfl) (by kernel_rfl) (fun _ _ _ h => h) (Or.inl ⟨by rfl, ?_⟩) hH_ ?_
      rotate_left
      · (intro w hSw; (try dsimp only at hSw); go_simp <;> with_reducible rfl)
      simp only [Act.put, List.setIfInBounds_toArray, List.set_cons_zero, List.set_cons_succ]
      refine wpAnyU_take (i := 28) (v := ?_) rfl (by kernel_rfl) (by kernel_rfl) (by kernel_rfl) (by kernel_rfl) (fun _ _ _ h => h) (Or.inl ⟨by rfl, ?_⟩) hH_ ?_
      rotate_left
      · (intro w hSw; (try dsimp only at hSw); go_simp <;> with_reducible rfl)
      simp only [Act.put, List.setIfInBounds_toArray, List.set_cons_zero, List.set_cons_succ]
      refine wpAnyU_one (i := 29) (by kernel_rfl) rfl (fun K hK => ?_)
      go_simp
      refine (impl_NewPromise_calls _).mono ?_
      rintro e wc29 ⟨us29, fp29, rfl, ho29, _, hb_29⟩
      have HP2 := Lib.hid ho29.rdw
      replace HXr := Lib.hid (HXr.out.below hb_29)
      replace HAr := Lib.hid (HAr.out.below hb_29)
      replace HBr := Lib.hid (HBr.out.below hb_29)
      replace HMr := Lib.hid (HMr.out.below hb_29)
      replace HBLr := Lib.hid (HBLr.out.trans (hb_29.mono HBLr.out.size))
      refine hK.out _ _ ?_ (fun hH1_ => ?_)
      · exact ⟨hH_.1.below hb_29, hH_.2.1.below hb_29, hH_.2.2.1.below hb_29, hH_.2.2.2.below hb_29⟩
      clear hK K hH_
      have hH_ := hH1_
      clear hH1_
      refine wpAnyU_one (i := 30) (by kernel_rfl) rfl (fun K hK => ?_)
      go_simp
      refine (impl_IsPending_calls us29 newPromise _ HP2.out).mono ?_
      rintro e wc30 ⟨rfl, hb_30⟩
      rw [pend_new]
      replace HXr := Lib.hid (HXr.out.below hb_30)
      replace HAr := Lib.hid (HAr.out.below hb_30)
      replace HBr := Lib.hid (HBr.out.below hb_30)
      replace HMr := Lib.hid (HMr.out.below hb_30)
      replace HBLr := Lib.hid (HBLr.out.trans (hb_30.mono HBLr.out.size))
      refine hK.out _ _ ?_ (fun hH1_ => ?_)
      · exact ⟨hH_.1.below hb_30, hH_.2.1.below hb_30, hH_.2.2.1.below hb_30, hH_.2.2.2.below hb_30⟩
      clear hK K hH_
      have hH_ := hH1_
      clear hH1_
      refine wpAnyU_take (i := 31) (v := ?_) rfl (by kernel_rfl) (by kernel_rfl) (by kernel_rfl) (by kernel_rfl) (fun _ _ _ h => h) (Or.inl ⟨by rfl, ?_⟩) hH_ ?_
      rotate_left
      · (intro w hSw; (try dsimp only at hSw); go_simp <;> with_reducible rfl)
      simp only [Act.put, List.setIfInBounds_toArray, List.set_cons_zero, List.set_cons_succ]
      refine wpAnyU_take (i := 32) (v := ?_) rfl (by kernel_rfl) (by kernel_rfl) (by kernel_rfl) (by kernel_rfl) (fun _ _ _ h => h) (Or.inl ⟨by rfl, ?_⟩) hH_ ?_
      rotate_left
      · (intro w hSw; (try dsimp only at hSw); go_simp <;> with_reducible rfl)
      simp only [Act.put, List.setIfInBounds_toArray, List.set_cons_zero, List.set_cons_succ]
      refine wpAnyU_take (i := 33) (v := ?_) rfl (by kernel_rfl) (by kernel_rfl) (by kernel_rfl) (by kernel_rfl) (fun _ _ _ h => h) (Or.inl ⟨by rfl, ?_⟩) hH_ ?_
      rotate_left
      · (intro w hSw; (try dsimp only at hSw); (obtain ⟨kc0, kf0⟩ := (hSw.1).rules; go_simp <;> with_reducible rfl))
      simp only [Act.put, List.setIfInBounds_toArray, List.set_cons_zero, List.set_cons_succ]
      refine wpAnyU_take (i := 35) (v := ?_) rfl (by kernel_rfl) (by kernel_rfl) (by kernel_rfl) (by kernel_rfl) (fun _ _ _ h => h) (Or.inl ⟨by rfl, ?_⟩) hH_ ?_
      rotate_left
      · (intro w hSw; (try dsimp only at hSw); (obtain ⟨kc0, kf0⟩ := (hSw.1).rules; go_simp <;> with_reducible rfl))
      simp only [Act.put, List.setIfInBounds_toArray, List.set_cons_zero, List.set_cons_succ]
      refine wpAnyU_one (i := 34) (by kernel_rfl) rfl (fun K hK => ?_)
      go_simp
      refine (impl_IsPending_calls _ x _ HXr.out).mono ?_
      rintro e wc34 ⟨rfl, hb_34⟩
      replace HXr := Lib.hid (HXr.out.below hb_34)
      replace HAr := Lib.hid (HAr.out.below hb_34)
      replace HBr := Lib.hid (HBr.out.below hb_34)
      replace HMr := Lib.hid (HMr.out.below hb_34)
      replace HBLr := Lib.hid (HBLr.out.trans (hb_34.mono HBLr.out.size))
      refine hK.out _ _ ?_ (fun hH1_ => ?_)
      · exact ⟨hH_.1.below hb_34, hH_.2.1.below hb_34, hH_.2.2.1.below hb_34, hH_.2.2.2.below hb_34⟩
      clear hK K hH_
      have hH_ := hH1_
      clear hH1_
      refine wpAnyU_one (i := 36) (by kernel_rfl) rfl (fun K hK => ?_)
      go_simp
      refine (spec_IsPending_calls _ x _ HXr.out).mono ?_
      rintro e wc36 ⟨rfl, hb_36⟩
      replace HXr := Lib.hid (HXr.out.below hb_36)
      replace HAr := Lib.hid (HAr.out.below hb_36)
      replace HBr := Lib.hid (HBr.out.below hb_36)
      replace HMr := Lib.hid (HMr.out.below hb_36)
      replace HBLr := Lib.hid (HBLr.out.trans (hb_36.mono HBLr.out.size))
      refine hK.out _ _ ?_ (fun hH1_ => ?_)
      · exact ⟨hH_.1.below hb_36, hH_.2.1.below hb_36, hH_.2.2.1.below hb_36, hH_.2.2.2.below hb_36⟩
      clear hK K hH_
      have hH_ := hH1_
      clear hH1_
      refine wpAnyU_take (i := 37) (v := ?_) rfl (by kernel_rfl) (by kernel_rfl) (by kernel_rfl) (by kernel_rfl) (fun _ _ _ h => h) (Or.inl ⟨by rfl, ?_⟩) hH_ ?_
      rotate_left
      · (intro w hSw; (try dsimp only at hSw); go_simp <;> with_reducible rfl)
      simp only [Act.put, List.setIfInBounds_toArray, List.set_cons_zero, List.set_cons_succ]
      refine wpAnyU_one' (i := 38) (by kernel_rfl) rfl (by kernel_rfl) (fun K hK => ?_)
      go_simp
      refine hK.out _ _ ?_
      clear hK K
      refine wpAnyU_one' (i := 39) (by kernel_rfl) rfl (by kernel_rfl) (fun K hK => ?_)
      go_simp
      refine hK.out _ _ ?_
      clear hK K
      refine wpAnyU_done (by kernel_rfl) ?_ _
      go_wp2
      go_ret
      exact ⟨rfl, HBLr.out⟩

end Go.Proofs.Ytaalbbhebmpppaa
