import Derived.Test.YtaalbbhebmpppaaProg
import Derived.Test.YtaalbbhebmpppaaTypes
import Derived.StillTailTactics
import Derived.Deep.CutBlock
import Derived.Deep.CutRange
import Derived.Laws.OwnMore
import Derived.Deep.AppendLies
import Derived.Deep.RegionWith
import Derived.Deep.RegionHeld3
import Derived.Laws.IdiomStrings
import Derived.Test.YtaalbbhebmpppaaAppend
import Derived.Laws.StructEq
import Derived.Lib.SliceRun
import Derived.Shelf.RegionOpenPlain
import Derived.Test.YtaalbbhebmpppaaCopies
namespace Go.Proofs.Ytaalbbhebmpppaa
open Go.RowKit
set_option linter.unusedVariables false
set_option linter.unusedSimpArgs false

theorem results_cell_cell {fn : Func} {p q : Tmp} {ty ty' : TypeId} (h : fn.results = #[.cell p ty, .cell q ty']) (tmps : Array Value) (P : Program) (w : World) :
    (results fn tmps).run P w =
      ((asAddr (tmps.getD p undef)).run P w).andThen fun a w₁ => ((loadVar ty a).run P w₁).andThen fun v w₂ => ((asAddr (tmps.getD q undef)).run P w₂).andThen fun a' w₃ => ((loadVar ty' a').run P w₃).andThen fun v' w₄ => .ok (.tuple #[v, v']) w₄ := by
  simp only [results, h]
  simp [Sem.run_bind, Result.andThen]
/-- a function's end: two structs in blocks of their own -/
theorem post_cell_cell {P : Program} {fn : Func} {R : Ending → World → Prop} {a : Act} {w w0 : World} {p q : Tmp} {ty : TypeId} (T : Nat → Prop) (h : fn.results = #[.cell p ty, .cell q ty]) (g g' : Nat) (cs cs' : Array Value) (d : TypeDesc)
    (hp : a.tmps.getD p undef = .pointer (some ⟨g, 0, none⟩)) (hg : Blk w g ty cs) (hq : a.tmps.getD q undef = .pointer (some ⟨g', 0, none⟩)) (hg' : Blk w g' ty cs') (hu : P.underlying ty = some d) (hd : (match d with | .struct _ | .array _ _ => true | _ => false) = true) (hi : (P.info? ty).map (·.size) = some cs.size)
    (hi' : (P.info? ty).map (·.size) = some cs'.size) (hf : a.defers = [])
    (hc : Chg T w0 w) (hR : ∀ W, Chg T w0 W → R (.returned (.tuple #[.agg cs, .agg cs'])) W) : bodyPost P fn R .ret a w := by
  refine bodyPost_ret (v := .tuple #[.agg cs, .agg cs']) ?_ hf (hR w hc)
  rw [results_cell_cell h, hp, hq]
  simp [asAddr, run_loadVar_row w g ty ty cs (0, 0) d hg hu hd hi, run_loadVar_row w g' ty ty cs' (0, 0) d hg' hu hd hi']
theorem entS_rd0 {L : Nat} {w : World} {x : GEntity} {v2 v6 v7 : Value} (h : EntS L w x.Slots x.Queue x.Askers v2 v6 v7) : RdLW w (eEntity x) [.int .i64 x.Kind, .int .i64 x.Script, v2, .int .i64 x.State, .int .i64 x.Value.Kind, .int .i64 x.Value.N, v6, v7, .int .i64 x.Peer, .int .i64 x.Pos, .int .i64 x.Count, .int .i64 x.Sent] := by
  obtain ⟨f2, f6, f7, h2, h6, h7, _⟩ := h
  exact mkrd_eEntity h2.rdw h6.rdw h7.rdw
theorem below_to_chg {g : Nat} {a b : World} (h : Below a.heap.size a b) : Chg (· = g) a b := ⟨h.os, h.tape, h.output, h.size, fun i hi _ => h.block i hi⟩
theorem small_siz {x : GEntity} (h : SmallE x) : sizL (eEntity x) ≤ 1048576 := by
  obtain ⟨h2, h6, h7, hs⟩ := h
  have hv : ∀ xs : List GValue, sizL (xs.flatMap eValue) = 0 := sizV
  have ha : ∀ xs : List GAsker, sizL (xs.flatMap eAsker) = 0 := by
    intro xs
    induction xs with
    | nil => exact sizL_nil
    | cons x xs ih => rw [List.flatMap_cons, sizL_append, ih, siz_eAsker]
  rw [siz_eEntity, hv, ha]
  match hq : x.Queue, h6 with
  | [], _ => rw [List.flatMap_nil, sizL_nil, List.length_nil]; omega
  | [y], _ =>
    have h := hs y (by rw [hq]; simp)
    rw [List.flatMap_cons, List.flatMap_nil, List.append_nil, siz_eSent, hv, List.length_singleton]
    omega
theorem small_quz {x : GEntity} (h : SmallE x) : x.Queue.length + sizL (x.Queue.flatMap eSent) ≤ 1048576 := by
  have h1 := small_siz h
  rw [siz_eEntity] at h1
  omega
set_option maxHeartbeats 12800000 in
set_option maxRecDepth 100000 in
theorem spec_DrawEqualEntities_calls (v : Value) (b : List UInt8) (w : World) (hr : RdW w (.s b.length (b.flatMap eByte)) v) (hz : b.length ≤ 1048576) :
    Calls Try.prog 16 #[v] w fun e w' => ∃ (x y : GEntity) (v2 v6 v7 u2 u6 u7 : Value), e = .returned (.tuple #[.agg (entC x v2 v6 v7), .agg (entC y u2 u6 u7)]) ∧ RdLW w' (eEntity x) (entC x v2 v6 v7).toList ∧ RdLW w' (eEntity y) (entC y u2 u6 u7).toList ∧ SmallE x ∧ SmallE y ∧ Below w.heap.size w w' := by
  obtain ⟨A0, c0, rfl, -⟩ := hr.slice
  obtain ⟨wz, hwz⟩ : ∃ q, q = (w.alloc (.cells #[.int .i64 0, .int .i64 0, .slice none 0 0, .int .i64 0, .int .i64 0, .int .i64 0, .slice none 0 0, .slice none 0 0, .int .i64 0, .int .i64 0, .int .i64 0, .int .i64 0] 37)).alloc (.cells #[.int .i64 0, .int .i64 0, .slice none 0 0, .int .i64 0, .int .i64 0, .int .i64 0, .slice none 0 0, .slice none 0 0, .int .i64 0, .int .i64 0, .int .i64 0, .int .i64 0] 37) := ⟨_, rfl⟩
  have hzz : wz.heap.size = w.heap.size + 2 := by rw [hwz]; simp
  have HBZ : Hid (Below w.heap.size w wz) := by rw [hwz]; exact ((Below.refl w.heap.size w).alloc (Nat.le_refl _) _).alloc (by simp) _
  have HN := Lib.hid (spec_l1New_calls _ b wz (hr.below HBZ.out) hz)
  have HKR : Hid (Blk wz w.heap.size 37 #[.int .i64 0, .int .i64 0, .slice none 0 0, .int .i64 0, .int .i64 0, .int .i64 0, .slice none 0 0, .slice none 0 0, .int .i64 0, .int .i64 0, .int .i64 0, .int .i64 0]) := by rw [hwz]; exact (Blk.new w 37 #[.int .i64 0, .int .i64 0, .slice none 0 0, .int .i64 0, .int .i64 0, .int .i64 0, .slice none 0 0, .slice none 0 0, .int .i64 0, .int .i64 0, .int .i64 0, .int .i64 0]).alloc (.cells #[.int .i64 0, .int .i64 0, .slice none 0 0, .int .i64 0, .int .i64 0, .int .i64 0, .slice none 0 0, .slice none 0 0, .int .i64 0, .int .i64 0, .int .i64 0, .int .i64 0] 37)
  have HKS : Hid (Blk wz (w.heap.size + 1) 37 #[.int .i64 0, .int .i64 0, .slice none 0 0, .int .i64 0, .int .i64 0, .int .i64 0, .slice none 0 0, .slice none 0 0, .int .i64 0, .int .i64 0, .int .i64 0, .int .i64 0]) := by rw [hwz]; exact Blk.made (by simp)
  clear hr
  go_enter Try.func16, Try.ntmps16
  go_wp2_with fail
  rw [← hwz]
  clear hwz
  refine HN.out.mono ?_
  rintro e w1 ⟨he, hc1, hb1⟩
  rw [hzz] at he hc1
  subst he
  have HC1 := Lib.hid hc1
  have HKR1 := Lib.hid (HKR.out.below hb1)
  have HKS1 := Lib.hid (HKS.out.below hb1)
  have hs1 := hb1.size
  have hg1 := hc1.lt
  clear hc1 hb1 HN HKR HKS
  go_wp2_with fail
  refine (spec_l9Any_calls _ (w.heap.size + 2) _ HC1.out).mono ?_
  rintro e w2 ⟨x, v2, v6, v7, he, hent, hsm, hc2, hg2⟩
  have hent2 := hent
  obtain ⟨f2, f6, f7, o2, o6, o7, -⟩ := hent2
  obtain ⟨A2, A2c, rfl, -⟩ := o2.slice
  obtain ⟨A6, A6c, rfl, -⟩ := o6.slice
  obtain ⟨A7, A7c, rfl, -⟩ := o7.slice
  unfold entC at he
  subst he
  have HC2 := Lib.hid hc2
  have HE2 := Lib.hid hent
  have HSM := Lib.hid hsm
  have HKR2 := Lib.hid (HKR1.out.chg hg2 (by omega))
  have HKS2 := Lib.hid (HKS1.out.chg hg2 (by omega))
  have hs2 := hg2.size
  clear o2 o6 o7 hent hsm hc2 hg2 HC1 HKR1 HKS1
  go_wp2_with fail
  obtain ⟨w3, hw3⟩ : ∃ q, q = w2.alloc (.cells #[.int .i64 x.Kind, .int .i64 x.Script, .slice A2 x.Slots.length A2c, .int .i64 x.State, .int .i64 x.Value.Kind, .int .i64 x.Value.N, .slice A6 x.Queue.length A6c, .slice A7 x.Askers.length A7c, .int .i64 x.Peer, .int .i64 x.Pos, .int .i64 x.Count, .int .i64 x.Sent] 37) := ⟨_, rfl⟩
  rw [← hw3]
  have HC3 : Hid (Cur wz (w.heap.size + 2) w3) := by rw [hw3]; exact HC2.out.below ((Below.refl _ _).alloc (Nat.le_refl _) _)
  have HKR3 : Hid (Blk w3 w.heap.size 37 #[.int .i64 0, .int .i64 0, .slice none 0 0, .int .i64 0, .int .i64 0, .int .i64 0, .slice none 0 0, .slice none 0 0, .int .i64 0, .int .i64 0, .int .i64 0, .int .i64 0]) := by rw [hw3]; exact HKR2.out.alloc _
  have HKS3 : Hid (Blk w3 (w.heap.size + 1) 37 #[.int .i64 0, .int .i64 0, .slice none 0 0, .int .i64 0, .int .i64 0, .int .i64 0, .slice none 0 0, .slice none 0 0, .int .i64 0, .int .i64 0, .int .i64 0, .int .i64 0]) := by rw [hw3]; exact HKS2.out.alloc _
  have HKM3 : Hid (Blk w3 w2.heap.size 37 #[.int .i64 x.Kind, .int .i64 x.Script, .slice A2 x.Slots.length A2c, .int .i64 x.State, .int .i64 x.Value.Kind, .int .i64 x.Value.N, .slice A6 x.Queue.length A6c, .slice A7 x.Askers.length A7c, .int .i64 x.Peer, .int .i64 x.Pos, .int .i64 x.Count, .int .i64 x.Sent]) := by rw [hw3]; exact Blk.new w2 37 #[.int .i64 x.Kind, .int .i64 x.Script, .slice A2 x.Slots.length A2c, .int .i64 x.State, .int .i64 x.Value.Kind, .int .i64 x.Value.N, .slice A6 x.Queue.length A6c, .slice A7 x.Askers.length A7c, .int .i64 x.Peer, .int .i64 x.Pos, .int .i64 x.Count, .int .i64 x.Sent]
  have HE3 : Hid (EntS (w1.heap.size + 2) w3 x.Slots x.Queue x.Askers (.slice A2 x.Slots.length A2c) (.slice A6 x.Queue.length A6c) (.slice A7 x.Askers.length A7c)) := by rw [hw3]; exact HE2.out.alloc _
  have hs3 : w2.heap.size + 1 ≤ w3.heap.size := by rw [hw3]; simp
  clear hw3 HE2 HC2 HKR2 HKS2
  refine (spec_l1Once_calls wz (w.heap.size + 2) _ _ HC3.out).mono ?_
  rintro e w4 ⟨rb, rfl, hc4, hg4⟩
  have HC4 := Lib.hid hc4
  have HKR4 := Lib.hid (HKR3.out.chg hg4 (by omega))
  have HKS4 := Lib.hid (HKS3.out.chg hg4 (by omega))
  have HKM4 := Lib.hid (HKM3.out.chg hg4 (by omega))
  have HE4 := Lib.hid (HE3.out.chg hg4 (by rintro _ rfl; omega))
  have hs4 := hg4.size
  have hlc := hc4.lt
  clear hc4 hg4 HKR3 HKS3 HKM3 HE3 HC3
  cases rb with
  | true =>
    go_wp2
    refine wp_region_U (fun wq => Blk wq w2.heap.size 37 #[.int .i64 x.Kind, .int .i64 x.Script, .slice A2 x.Slots.length A2c, .int .i64 x.State, .int .i64 x.Value.Kind, .int .i64 x.Value.N, .slice A6 x.Queue.length A6c, .slice A7 x.Askers.length A7c, .int .i64 x.Peer, .int .i64 x.Pos, .int .i64 x.Count, .int .i64 x.Sent]) [0, 1, 2, 3] (by kernel_rfl) ?_
    have hH_ := (HKM4.out.drew : (fun wq => Blk wq w2.heap.size 37 #[.int .i64 x.Kind, .int .i64 x.Script, .slice A2 x.Slots.length A2c, .int .i64 x.State, .int .i64 x.Value.Kind, .int .i64 x.Value.N, .slice A6 x.Queue.length A6c, .slice A7 x.Askers.length A7c, .int .i64 x.Peer, .int .i64 x.Pos, .int .i64 x.Count, .int .i64 x.Sent]) _)
    refine wpAnyU_take (i := 0) (v := ?_) rfl (by kernel_rfl) (by kernel_rfl) (by kernel_rfl) (by kernel_rfl) (fun _ _ _ h => h) (Or.inl ⟨by rfl, ?_⟩) hH_ ?_
    rotate_left
    · (intro w hSw; (try dsimp only at hSw); (obtain ⟨kc0, kf0⟩ := hSw.rules; go_simp <;> with_reducible rfl))
    simp only [Act.put, List.setIfInBounds_toArray, List.set_cons_zero, List.set_cons_succ]
    refine wpAnyU_take (i := 1) (v := ?_) rfl (by kernel_rfl) (by kernel_rfl) (by kernel_rfl) (by kernel_rfl) (fun _ _ _ h => h) (Or.inl ⟨by rfl, ?_⟩) hH_ ?_
    rotate_left
    · (intro w hSw; (try dsimp only at hSw); (obtain ⟨kc0, kf0⟩ := hSw.rules; go_simp <;> with_reducible rfl))
    simp only [Act.put, List.setIfInBounds_toArray, List.set_cons_zero, List.set_cons_succ]
    refine wpAnyU_one (i := 2) (by kernel_rfl) rfl (fun K hK => ?_)
    go_simp
    refine (spec_l9Copy_calls _ x _ (entS_rd0 (HE4.out.below (Below.refl _ _).drew)) HSM.out.1 HSM.out.2.1 HSM.out.2.2.1 (small_quz HSM.out)).mono ?_
    rintro e w5 ⟨u2, u6, u7, he, hent, hb5⟩
    have hy : Hid (SmallE x) := HSM
    have hg5 : Chg (· = w.heap.size + 2) w4.drew w5 := below_to_chg hb5
    have HC5 := Lib.hid (HC4.out.below ((Below.refl _ _).drew.trans hb5))
    have hlo5 : w.heap.size + 2 ≤ w4.drew.heap.size := by show w.heap.size + 2 ≤ w4.heap.size; omega
    have hent2 := hent
    obtain ⟨f2', f6', f7', o2, o6, o7, -⟩ := hent2
    obtain ⟨B2, B2c, rfl, -⟩ := o2.slice
    obtain ⟨B6, B6c, rfl, -⟩ := o6.slice
    obtain ⟨B7, B7c, rfl, -⟩ := o7.slice
    unfold entC at he
    subst he
    have HE5 := Lib.hid (HE4.out.below (Below.refl _ _).drew)
    replace HE5 := Lib.hid (HE5.out.chg hg5 (by rintro _ rfl; omega))
    have HF5 := Lib.hid hent
    have HKR5 := Lib.hid (HKR4.out.drew.chg hg5 (by omega))
    have HKS5 := Lib.hid (HKS4.out.drew.chg hg5 (by omega))
    have hs5 := hg5.size
    clear o2 o6 o7 hent
    obtain ⟨kr, jr⟩ := HKR5.out.rules
    have lr := HKR5.out.lt
    obtain ⟨ks, js⟩ := HKS5.out.rules
    have ls := HKS5.out.lt
    refine hK.out _ _ ?_ (fun hH1_ => ?_)
    · exact hH_.chg hg5 (by omega)
    clear hK K hH_
    have hH_ := hH1_
    clear hH1_
    refine wpAnyU_one' (i := 3) (by kernel_rfl) rfl (by kernel_rfl) (fun K hK => ?_)
    go_simp
    refine hK.out _ _ ?_
    clear hK K
    obtain ⟨w6, hw6⟩ : ∃ q, q = ((((((((((((w5.setCell ⟨w.heap.size, 0, none⟩ (.int .i64 x.Kind)).setCell ⟨w.heap.size, 1, none⟩ (.int .i64 x.Script)).setCell ⟨w.heap.size, 2, none⟩ (.slice A2 x.Slots.length A2c)).setCell ⟨w.heap.size, 3, none⟩ (.int .i64 x.State)).setCell ⟨w.heap.size, 4, none⟩ (.int .i64 x.Value.Kind)).setCell ⟨w.heap.size, 5, none⟩ (.int .i64 x.Value.N)).setCell ⟨w.heap.size, 6, none⟩ (.slice A6 x.Queue.length A6c)).setCell ⟨w.heap.size, 7, none⟩ (.slice A7 x.Askers.length A7c)).setCell ⟨w.heap.size, 8, none⟩ (.int .i64 x.Peer)).setCell ⟨w.heap.size, 9, none⟩ (.int .i64 x.Pos)).setCell ⟨w.heap.size, 10, none⟩ (.int .i64 x.Count)).setCell ⟨w.heap.size, 11, none⟩ (.int .i64 x.Sent)) := ⟨_, rfl⟩
    rw [← hw6]
    have hg6 : Chg (· = w.heap.size) w5 w6 := by rw [hw6]; exact (((((((((((((Chg.refl (· = w.heap.size) w5).setCell (p := ⟨w.heap.size, 0, none⟩) (.inl rfl) (.int .i64 x.Kind)).setCell (p := ⟨w.heap.size, 1, none⟩) (.inl rfl) (.int .i64 x.Script)).setCell (p := ⟨w.heap.size, 2, none⟩) (.inl rfl) (.slice A2 x.Slots.length A2c)).setCell (p := ⟨w.heap.size, 3, none⟩) (.inl rfl) (.int .i64 x.State)).setCell (p := ⟨w.heap.size, 4, none⟩) (.inl rfl) (.int .i64 x.Value.Kind)).setCell (p := ⟨w.heap.size, 5, none⟩) (.inl rfl) (.int .i64 x.Value.N)).setCell (p := ⟨w.heap.size, 6, none⟩) (.inl rfl) (.slice A6 x.Queue.length A6c)).setCell (p := ⟨w.heap.size, 7, none⟩) (.inl rfl) (.slice A7 x.Askers.length A7c)).setCell (p := ⟨w.heap.size, 8, none⟩) (.inl rfl) (.int .i64 x.Peer)).setCell (p := ⟨w.heap.size, 9, none⟩) (.inl rfl) (.int .i64 x.Pos)).setCell (p := ⟨w.heap.size, 10, none⟩) (.inl rfl) (.int .i64 x.Count)).setCell (p := ⟨w.heap.size, 11, none⟩) (.inl rfl) (.int .i64 x.Sent))
    have HKR6 : Hid (Blk w6 w.heap.size 37 #[.int .i64 x.Kind, .int .i64 x.Script, .slice A2 x.Slots.length A2c, .int .i64 x.State, .int .i64 x.Value.Kind, .int .i64 x.Value.N, .slice A6 x.Queue.length A6c, .slice A7 x.Askers.length A7c, .int .i64 x.Peer, .int .i64 x.Pos, .int .i64 x.Count, .int .i64 x.Sent]) := by rw [hw6]; exact ((((((((((((HKR5.out.set_ 0 (.int .i64 x.Kind)).set_ 1 (.int .i64 x.Script)).set_ 2 (.slice A2 x.Slots.length A2c)).set_ 3 (.int .i64 x.State)).set_ 4 (.int .i64 x.Value.Kind)).set_ 5 (.int .i64 x.Value.N)).set_ 6 (.slice A6 x.Queue.length A6c)).set_ 7 (.slice A7 x.Askers.length A7c)).set_ 8 (.int .i64 x.Peer)).set_ 9 (.int .i64 x.Pos)).set_ 10 (.int .i64 x.Count)).set_ 11 (.int .i64 x.Sent)).eq (by simp)
    have HKS6 := Lib.hid (HKS5.out.chg hg6 (by omega))
    have HE6 := Lib.hid (HE5.out.chg hg6 (by rintro _ rfl; omega))
    have HF6 := Lib.hid (HF5.out.chg hg6 (by rintro _ rfl; omega))
    have hs6 := hg6.size
    clear hw6 kr jr lr ks js ls
    obtain ⟨ks, js⟩ := HKS6.out.rules
    have ls := HKS6.out.lt
    refine wpAnyU_one' (i := 4) (by kernel_rfl) rfl (by kernel_rfl) (fun K hK => ?_)
    go_simp
    refine hK.out _ _ ?_
    clear hK K
    refine wpAnyU_done (by kernel_rfl) ?_ _
    go_wp2
    refine post_cell_cell (w0 := w6) (fun k => k = w.heap.size + 1) Try.results16 w.heap.size (w.heap.size + 1) #[.int .i64 x.Kind, .int .i64 x.Script, .slice A2 x.Slots.length A2c, .int .i64 x.State, .int .i64 x.Value.Kind, .int .i64 x.Value.N, .slice A6 x.Queue.length A6c, .slice A7 x.Askers.length A7c, .int .i64 x.Peer, .int .i64 x.Pos, .int .i64 x.Count, .int .i64 x.Sent] #[.int .i64 x.Kind, .int .i64 x.Script, .slice B2 x.Slots.length B2c, .int .i64 x.State, .int .i64 x.Value.Kind, .int .i64 x.Value.N, .slice B6 x.Queue.length B6c, .slice B7 x.Askers.length B7c, .int .i64 x.Peer, .int .i64 x.Pos, .int .i64 x.Count, .int .i64 x.Sent] _ rfl (HKR6.out.chg (T := fun k => k = w.heap.size + 1) (((((((((((((Chg.refl (· = (w.heap.size + 1)) w6).setCell (p := ⟨(w.heap.size + 1), 0, none⟩) (.inl rfl) (.int .i64 x.Kind)).setCell (p := ⟨(w.heap.size + 1), 1, none⟩) (.inl rfl) (.int .i64 x.Script)).setCell (p := ⟨(w.heap.size + 1), 2, none⟩) (.inl rfl) (.slice B2 x.Slots.length B2c)).setCell (p := ⟨(w.heap.size + 1), 3, none⟩) (.inl rfl) (.int .i64 x.State)).setCell (p := ⟨(w.heap.size + 1), 4, none⟩) (.inl rfl) (.int .i64 x.Value.Kind)).setCell (p := ⟨(w.heap.size + 1), 5, none⟩) (.inl rfl) (.int .i64 x.Value.N)).setCell (p := ⟨(w.heap.size + 1), 6, none⟩) (.inl rfl) (.slice B6 x.Queue.length B6c)).setCell (p := ⟨(w.heap.size + 1), 7, none⟩) (.inl rfl) (.slice B7 x.Askers.length B7c)).setCell (p := ⟨(w.heap.size + 1), 8, none⟩) (.inl rfl) (.int .i64 x.Peer)).setCell (p := ⟨(w.heap.size + 1), 9, none⟩) (.inl rfl) (.int .i64 x.Pos)).setCell (p := ⟨(w.heap.size + 1), 10, none⟩) (.inl rfl) (.int .i64 x.Count)).setCell (p := ⟨(w.heap.size + 1), 11, none⟩) (.inl rfl) (.int .i64 x.Sent)) (by omega)) rfl (((((((((((((HKS6.out.set_ 0 (.int .i64 x.Kind)).set_ 1 (.int .i64 x.Script)).set_ 2 (.slice B2 x.Slots.length B2c)).set_ 3 (.int .i64 x.State)).set_ 4 (.int .i64 x.Value.Kind)).set_ 5 (.int .i64 x.Value.N)).set_ 6 (.slice B6 x.Queue.length B6c)).set_ 7 (.slice B7 x.Askers.length B7c)).set_ 8 (.int .i64 x.Peer)).set_ 9 (.int .i64 x.Pos)).set_ 10 (.int .i64 x.Count)).set_ 11 (.int .i64 x.Sent)).eq (by simp)) Try.underlying37 rfl (by kernel_rfl) (by kernel_rfl) rfl (((((((((((((Chg.refl (· = (w.heap.size + 1)) w6).setCell (p := ⟨(w.heap.size + 1), 0, none⟩) (.inl rfl) (.int .i64 x.Kind)).setCell (p := ⟨(w.heap.size + 1), 1, none⟩) (.inl rfl) (.int .i64 x.Script)).setCell (p := ⟨(w.heap.size + 1), 2, none⟩) (.inl rfl) (.slice B2 x.Slots.length B2c)).setCell (p := ⟨(w.heap.size + 1), 3, none⟩) (.inl rfl) (.int .i64 x.State)).setCell (p := ⟨(w.heap.size + 1), 4, none⟩) (.inl rfl) (.int .i64 x.Value.Kind)).setCell (p := ⟨(w.heap.size + 1), 5, none⟩) (.inl rfl) (.int .i64 x.Value.N)).setCell (p := ⟨(w.heap.size + 1), 6, none⟩) (.inl rfl) (.slice B6 x.Queue.length B6c)).setCell (p := ⟨(w.heap.size + 1), 7, none⟩) (.inl rfl) (.slice B7 x.Askers.length B7c)).setCell (p := ⟨(w.heap.size + 1), 8, none⟩) (.inl rfl) (.int .i64 x.Peer)).setCell (p := ⟨(w.heap.size + 1), 9, none⟩) (.inl rfl) (.int .i64 x.Pos)).setCell (p := ⟨(w.heap.size + 1), 10, none⟩) (.inl rfl) (.int .i64 x.Count)).setCell (p := ⟨(w.heap.size + 1), 11, none⟩) (.inl rfl) (.int .i64 x.Sent)) ?_
    intro W hW
    refine ⟨x, x, .slice A2 x.Slots.length A2c, .slice A6 x.Queue.length A6c, .slice A7 x.Askers.length A7c, .slice B2 x.Slots.length B2c, .slice B6 x.Queue.length B6c, .slice B7 x.Askers.length B7c, rfl, ?_, ?_, HSM.out, hy.out, ?_⟩
    · exact entS_rd0 (HE6.out.chg hW (by rintro _ rfl; omega))
    · exact entS_rd0 (HF6.out.chg hW (by rintro _ rfl; omega))
    · exact below_chg (below_chg (HBZ.out.trans (HC5.out.base.mono (by omega))) hg6 (by omega) (by rintro _ rfl; omega)) hW (by omega) (by rintro _ rfl; omega)
  | false =>
    go_wp2
    refine wp_region_U (fun wq => Blk wq w2.heap.size 37 #[.int .i64 x.Kind, .int .i64 x.Script, .slice A2 x.Slots.length A2c, .int .i64 x.State, .int .i64 x.Value.Kind, .int .i64 x.Value.N, .slice A6 x.Queue.length A6c, .slice A7 x.Askers.length A7c, .int .i64 x.Peer, .int .i64 x.Pos, .int .i64 x.Count, .int .i64 x.Sent]) [0, 1, 2, 3] (by kernel_rfl) ?_
    have hH_ := (HKM4.out.drew : (fun wq => Blk wq w2.heap.size 37 #[.int .i64 x.Kind, .int .i64 x.Script, .slice A2 x.Slots.length A2c, .int .i64 x.State, .int .i64 x.Value.Kind, .int .i64 x.Value.N, .slice A6 x.Queue.length A6c, .slice A7 x.Askers.length A7c, .int .i64 x.Peer, .int .i64 x.Pos, .int .i64 x.Count, .int .i64 x.Sent]) _)
    refine wpAnyU_take (i := 0) (v := ?_) rfl (by kernel_rfl) (by kernel_rfl) (by kernel_rfl) (by kernel_rfl) (fun _ _ _ h => h) (Or.inl ⟨by rfl, ?_⟩) hH_ ?_
    rotate_left
    · (intro w hSw; (try dsimp only at hSw); (obtain ⟨kc0, kf0⟩ := hSw.rules; go_simp <;> with_reducible rfl))
    simp only [Act.put, List.setIfInBounds_toArray, List.set_cons_zero, List.set_cons_succ]
    refine wpAnyU_take (i := 1) (v := ?_) rfl (by kernel_rfl) (by kernel_rfl) (by kernel_rfl) (by kernel_rfl) (fun _ _ _ h => h) (Or.inl ⟨by rfl, ?_⟩) hH_ ?_
    rotate_left
    · (intro w hSw; (try dsimp only at hSw); go_simp <;> with_reducible rfl)
    simp only [Act.put, List.setIfInBounds_toArray, List.set_cons_zero, List.set_cons_succ]
    refine wpAnyU_one (i := 2) (by kernel_rfl) rfl (fun K hK => ?_)
    go_simp
    refine (spec_l9Any_calls wz (w.heap.size + 2) _ (HC4.out.below (Below.refl _ _).drew)).mono ?_
    rintro e w5 ⟨y, u2, u6, u7, he, hent, hsm, hc5, hg5⟩
    have hy := Lib.hid hsm
    have HC5 := Lib.hid hc5
    have hlo5 : w.heap.size + 2 ≤ w4.drew.heap.size + 2 := by show w.heap.size + 2 ≤ w4.heap.size + 2; omega
    have hent2 := hent
    obtain ⟨f2', f6', f7', o2, o6, o7, -⟩ := hent2
    obtain ⟨B2, B2c, rfl, -⟩ := o2.slice
    obtain ⟨B6, B6c, rfl, -⟩ := o6.slice
    obtain ⟨B7, B7c, rfl, -⟩ := o7.slice
    unfold entC at he
    subst he
    have HE5 := Lib.hid (HE4.out.below (Below.refl _ _).drew)
    replace HE5 := Lib.hid (HE5.out.chg hg5 (by rintro _ rfl; omega))
    have HF5 := Lib.hid hent
    have HKR5 := Lib.hid (HKR4.out.drew.chg hg5 (by omega))
    have HKS5 := Lib.hid (HKS4.out.drew.chg hg5 (by omega))
    have hs5 := hg5.size
    clear o2 o6 o7 hent
    obtain ⟨kr, jr⟩ := HKR5.out.rules
    have lr := HKR5.out.lt
    obtain ⟨ks, js⟩ := HKS5.out.rules
    have ls := HKS5.out.lt
    refine hK.out _ _ ?_ (fun hH1_ => ?_)
    · exact hH_.chg hg5 (by omega)
    clear hK K hH_
    have hH_ := hH1_
    clear hH1_
    refine wpAnyU_one' (i := 3) (by kernel_rfl) rfl (by kernel_rfl) (fun K hK => ?_)
    go_simp
    refine hK.out _ _ ?_
    clear hK K
    obtain ⟨w6, hw6⟩ : ∃ q, q = ((((((((((((w5.setCell ⟨w.heap.size, 0, none⟩ (.int .i64 x.Kind)).setCell ⟨w.heap.size, 1, none⟩ (.int .i64 x.Script)).setCell ⟨w.heap.size, 2, none⟩ (.slice A2 x.Slots.length A2c)).setCell ⟨w.heap.size, 3, none⟩ (.int .i64 x.State)).setCell ⟨w.heap.size, 4, none⟩ (.int .i64 x.Value.Kind)).setCell ⟨w.heap.size, 5, none⟩ (.int .i64 x.Value.N)).setCell ⟨w.heap.size, 6, none⟩ (.slice A6 x.Queue.length A6c)).setCell ⟨w.heap.size, 7, none⟩ (.slice A7 x.Askers.length A7c)).setCell ⟨w.heap.size, 8, none⟩ (.int .i64 x.Peer)).setCell ⟨w.heap.size, 9, none⟩ (.int .i64 x.Pos)).setCell ⟨w.heap.size, 10, none⟩ (.int .i64 x.Count)).setCell ⟨w.heap.size, 11, none⟩ (.int .i64 x.Sent)) := ⟨_, rfl⟩
    rw [← hw6]
    have hg6 : Chg (· = w.heap.size) w5 w6 := by rw [hw6]; exact (((((((((((((Chg.refl (· = w.heap.size) w5).setCell (p := ⟨w.heap.size, 0, none⟩) (.inl rfl) (.int .i64 x.Kind)).setCell (p := ⟨w.heap.size, 1, none⟩) (.inl rfl) (.int .i64 x.Script)).setCell (p := ⟨w.heap.size, 2, none⟩) (.inl rfl) (.slice A2 x.Slots.length A2c)).setCell (p := ⟨w.heap.size, 3, none⟩) (.inl rfl) (.int .i64 x.State)).setCell (p := ⟨w.heap.size, 4, none⟩) (.inl rfl) (.int .i64 x.Value.Kind)).setCell (p := ⟨w.heap.size, 5, none⟩) (.inl rfl) (.int .i64 x.Value.N)).setCell (p := ⟨w.heap.size, 6, none⟩) (.inl rfl) (.slice A6 x.Queue.length A6c)).setCell (p := ⟨w.heap.size, 7, none⟩) (.inl rfl) (.slice A7 x.Askers.length A7c)).setCell (p := ⟨w.heap.size, 8, none⟩) (.inl rfl) (.int .i64 x.Peer)).setCell (p := ⟨w.heap.size, 9, none⟩) (.inl rfl) (.int .i64 x.Pos)).setCell (p := ⟨w.heap.size, 10, none⟩) (.inl rfl) (.int .i64 x.Count)).setCell (p := ⟨w.heap.size, 11, none⟩) (.inl rfl) (.int .i64 x.Sent))
    have HKR6 : Hid (Blk w6 w.heap.size 37 #[.int .i64 x.Kind, .int .i64 x.Script, .slice A2 x.Slots.length A2c, .int .i64 x.State, .int .i64 x.Value.Kind, .int .i64 x.Value.N, .slice A6 x.Queue.length A6c, .slice A7 x.Askers.length A7c, .int .i64 x.Peer, .int .i64 x.Pos, .int .i64 x.Count, .int .i64 x.Sent]) := by rw [hw6]; exact ((((((((((((HKR5.out.set_ 0 (.int .i64 x.Kind)).set_ 1 (.int .i64 x.Script)).set_ 2 (.slice A2 x.Slots.length A2c)).set_ 3 (.int .i64 x.State)).set_ 4 (.int .i64 x.Value.Kind)).set_ 5 (.int .i64 x.Value.N)).set_ 6 (.slice A6 x.Queue.length A6c)).set_ 7 (.slice A7 x.Askers.length A7c)).set_ 8 (.int .i64 x.Peer)).set_ 9 (.int .i64 x.Pos)).set_ 10 (.int .i64 x.Count)).set_ 11 (.int .i64 x.Sent)).eq (by simp)
    have HKS6 := Lib.hid (HKS5.out.chg hg6 (by omega))
    have HE6 := Lib.hid (HE5.out.chg hg6 (by rintro _ rfl; omega))
    have HF6 := Lib.hid (HF5.out.chg hg6 (by rintro _ rfl; omega))
    have hs6 := hg6.size
    clear hw6 kr jr lr ks js ls
    obtain ⟨ks, js⟩ := HKS6.out.rules
    have ls := HKS6.out.lt
    refine wpAnyU_one' (i := 4) (by kernel_rfl) rfl (by kernel_rfl) (fun K hK => ?_)
    go_simp
    refine hK.out _ _ ?_
    clear hK K
    refine wpAnyU_done (by kernel_rfl) ?_ _
    go_wp2
    refine post_cell_cell (w0 := w6) (fun k => k = w.heap.size + 1) Try.results16 w.heap.size (w.heap.size + 1) #[.int .i64 x.Kind, .int .i64 x.Script, .slice A2 x.Slots.length A2c, .int .i64 x.State, .int .i64 x.Value.Kind, .int .i64 x.Value.N, .slice A6 x.Queue.length A6c, .slice A7 x.Askers.length A7c, .int .i64 x.Peer, .int .i64 x.Pos, .int .i64 x.Count, .int .i64 x.Sent] #[.int .i64 y.Kind, .int .i64 y.Script, .slice B2 y.Slots.length B2c, .int .i64 y.State, .int .i64 y.Value.Kind, .int .i64 y.Value.N, .slice B6 y.Queue.length B6c, .slice B7 y.Askers.length B7c, .int .i64 y.Peer, .int .i64 y.Pos, .int .i64 y.Count, .int .i64 y.Sent] _ rfl (HKR6.out.chg (T := fun k => k = w.heap.size + 1) (((((((((((((Chg.refl (· = (w.heap.size + 1)) w6).setCell (p := ⟨(w.heap.size + 1), 0, none⟩) (.inl rfl) (.int .i64 y.Kind)).setCell (p := ⟨(w.heap.size + 1), 1, none⟩) (.inl rfl) (.int .i64 y.Script)).setCell (p := ⟨(w.heap.size + 1), 2, none⟩) (.inl rfl) (.slice B2 y.Slots.length B2c)).setCell (p := ⟨(w.heap.size + 1), 3, none⟩) (.inl rfl) (.int .i64 y.State)).setCell (p := ⟨(w.heap.size + 1), 4, none⟩) (.inl rfl) (.int .i64 y.Value.Kind)).setCell (p := ⟨(w.heap.size + 1), 5, none⟩) (.inl rfl) (.int .i64 y.Value.N)).setCell (p := ⟨(w.heap.size + 1), 6, none⟩) (.inl rfl) (.slice B6 y.Queue.length B6c)).setCell (p := ⟨(w.heap.size + 1), 7, none⟩) (.inl rfl) (.slice B7 y.Askers.length B7c)).setCell (p := ⟨(w.heap.size + 1), 8, none⟩) (.inl rfl) (.int .i64 y.Peer)).setCell (p := ⟨(w.heap.size + 1), 9, none⟩) (.inl rfl) (.int .i64 y.Pos)).setCell (p := ⟨(w.heap.size + 1), 10, none⟩) (.inl rfl) (.int .i64 y.Count)).setCell (p := ⟨(w.heap.size + 1), 11, none⟩) (.inl rfl) (.int .i64 y.Sent)) (by omega)) rfl (((((((((((((HKS6.out.set_ 0 (.int .i64 y.Kind)).set_ 1 (.int .i64 y.Script)).set_ 2 (.slice B2 y.Slots.length B2c)).set_ 3 (.int .i64 y.State)).set_ 4 (.int .i64 y.Value.Kind)).set_ 5 (.int .i64 y.Value.N)).set_ 6 (.slice B6 y.Queue.length B6c)).set_ 7 (.slice B7 y.Askers.length B7c)).set_ 8 (.int .i64 y.Peer)).set_ 9 (.int .i64 y.Pos)).set_ 10 (.int .i64 y.Count)).set_ 11 (.int .i64 y.Sent)).eq (by simp)) Try.underlying37 rfl (by kernel_rfl) (by kernel_rfl) rfl (((((((((((((Chg.refl (· = (w.heap.size + 1)) w6).setCell (p := ⟨(w.heap.size + 1), 0, none⟩) (.inl rfl) (.int .i64 y.Kind)).setCell (p := ⟨(w.heap.size + 1), 1, none⟩) (.inl rfl) (.int .i64 y.Script)).setCell (p := ⟨(w.heap.size + 1), 2, none⟩) (.inl rfl) (.slice B2 y.Slots.length B2c)).setCell (p := ⟨(w.heap.size + 1), 3, none⟩) (.inl rfl) (.int .i64 y.State)).setCell (p := ⟨(w.heap.size + 1), 4, none⟩) (.inl rfl) (.int .i64 y.Value.Kind)).setCell (p := ⟨(w.heap.size + 1), 5, none⟩) (.inl rfl) (.int .i64 y.Value.N)).setCell (p := ⟨(w.heap.size + 1), 6, none⟩) (.inl rfl) (.slice B6 y.Queue.length B6c)).setCell (p := ⟨(w.heap.size + 1), 7, none⟩) (.inl rfl) (.slice B7 y.Askers.length B7c)).setCell (p := ⟨(w.heap.size + 1), 8, none⟩) (.inl rfl) (.int .i64 y.Peer)).setCell (p := ⟨(w.heap.size + 1), 9, none⟩) (.inl rfl) (.int .i64 y.Pos)).setCell (p := ⟨(w.heap.size + 1), 10, none⟩) (.inl rfl) (.int .i64 y.Count)).setCell (p := ⟨(w.heap.size + 1), 11, none⟩) (.inl rfl) (.int .i64 y.Sent)) ?_
    intro W hW
    refine ⟨x, y, .slice A2 x.Slots.length A2c, .slice A6 x.Queue.length A6c, .slice A7 x.Askers.length A7c, .slice B2 y.Slots.length B2c, .slice B6 y.Queue.length B6c, .slice B7 y.Askers.length B7c, rfl, ?_, ?_, HSM.out, hy.out, ?_⟩
    · exact entS_rd0 (HE6.out.chg hW (by rintro _ rfl; omega))
    · exact entS_rd0 (HF6.out.chg hW (by rintro _ rfl; omega))
    · exact below_chg (below_chg (HBZ.out.trans (HC5.out.base.mono (by omega))) hg6 (by omega) (by rintro _ rfl; omega)) hW (by omega) (by rintro _ rfl; omega)

end Go.Proofs.Ytaalbbhebmpppaa
