import Derived.Test.YtiohoeafdaihpaaProg
import Derived.Test.YtiohoeafdaihpaaTypes
import Derived.StillTailTactics
import Derived.Deep.CutRange
import Derived.Laws.OwnMore
import Derived.Deep.AppendLies
import Derived.Deep.RegionWith
import Derived.Deep.RegionHeld3
import Derived.Laws.IdiomStrings
import Derived.Test.YtiohoeafdaihpaaAppend
import Derived.Laws.StructEq
import Derived.Lib.SliceRun
import Derived.Shelf.RegionOpenPlain
import Derived.Test.YtiohoeafdaihpaaRegsS
import Derived.Test.YtiohoeafdaihpaaOrders
namespace Go.Proofs.Ytiohoeafdaihpaa
open Go.RowKit
set_option linter.unusedVariables false
set_option linter.unusedSimpArgs false

/-- append(s, x...) at a step of a region that draws its order -/
theorem step_append_rd {P : Program} {w : World} {ops : Array Oper} {o : Oper} {a : Act} {K : Act → World → Prop} {Q : Exit → Act → World → Prop} {E : Prop} (hgd : o.guard = none) (s x : Operand) (t : TypeId)
    (ho : o.op = .call { callee := .builtin .append, args := #[s, x], argTypes := #[t, t] })
    (base : Nat) (e : TypeId) (i : TypeInfo) (z : Value) (size bytes : Nat) (ht : P.underlying t = some (.slice e)) (hi : P.info? e = some i) (hz : i.zero = some z)
    (hsize : i.size = size) (hby : i.bytes = bytes) (hzs : z.cells.size = size) (hsz : 0 < size)
    (v : Value) (n : Nat) (xs : List Value) (hs : a.eval s = v) (hown : w.ownsRow base e size v n xs)
    {α : Type} {en : α → List Lf} {vs : α → List Value} (hvals : ∀ x, en x = (vs x).map Lf.v) (ys : List α) (hone : ∀ u, u ∈ ys.flatMap vs → u.oneCell' = true) (hlenv : (ys.flatMap vs).length = ys.length * size)
    (A : Option Addr) (c : Nat) (hx : a.eval x = .slice A ys.length c) (hr : RdW w (.s ys.length (ys.flatMap en)) (.slice A ys.length c))
    (h63 : n + ys.length ≤ 1099511627776) (hb : bytes ≤ 128) (hbase : base ≤ w.heap.size)
    (h : ∀ A' c' w', w'.ownsRow base e size (.slice A' (n + ys.length) c') (n + ys.length) (xs ++ ys.flatMap vs) → w.grownBy w' v.ownBlock → ((Value.slice A' (n + ys.length) c').ownBlock = v.ownBlock ∨ (Value.slice A' (n + ys.length) c').ownBlock = some w.heap.size) → K (a.put o.dst (.slice A' (n + ys.length) c')) w') :
    if Region.wanted o (yielded ops a.tmps) = true then Oper.wp P o a w K Q else E := by
  have hw : Region.wanted o (yielded ops a.tmps) = true := by simp [Region.wanted, hgd]
  rw [if_pos hw]
  have hcells := hr.cells hvals
  have hmx : maxLen = 9223372036854775807 := by decide
  cases A with
  | none =>
    have h0 : ys.length = 0 := by
      rcases hcells with h | ⟨ad, h, _⟩
      · exact h
      · cases h
    have hy : ys = [] := List.eq_nil_of_length_eq_zero h0
    subst hy
    obtain ⟨A', c', rfl⟩ := ownsRow_sl hown
    have hrun := run_append_owned_noneC (P := P) (w := w) base t o.type e i size ht hi _ n c xs hown
    unfold Oper.wp
    simp only [List.length_nil] at hx
    simp [execOp, ho, resolve, invoke, builtin, hs, hx, hrun, Result.andThen]
    refine h A' c' w ?_ ⟨rfl, rfl, rfl, Nat.le_refl _, fun _ _ _ => rfl⟩ (.inl rfl)
    simpa using hown
  | some ad =>
    have hc : ∀ (j : Nat) u, (ys.flatMap vs)[j]? = some u → w.cell? (ad.add j) = some u := by
      rcases hcells with h | ⟨ad', h, _, hc⟩
      · have hxs : ys = [] := List.eq_nil_of_length_eq_zero h
        subst hxs
        exact fun j u hu => by simp at hu
      · injection h with h; subst h; exact hc
    have hbb : (n + ys.length) * bytes ≤ 1099511627776 * 128 := Nat.mul_le_mul h63 hb
    obtain ⟨v', w', hr, h2, h3, _, h5⟩ := run_append_own_at (P := P) w base t o.type e i z size bytes ht hi hz hsize hby hzs hsz v n xs hown ad ys.length c (ys.flatMap vs) hlenv hc hone (by rw [hmx]; omega) (by omega) hbase
    unfold Oper.wp execOp
    simp only [ho, resolve, invoke, builtin, Sem.run_bind, Sem.run_pure, Result.andThen_ok, List.map_toArray, List.map_cons, List.map_nil, hs, hx, hr]
    obtain ⟨A', c', rfl⟩ := ownsRow_sl h2
    exact h A' c' w' h2 h3 h5

theorem someI_len (c d : Int) : (someI c d).length ≤ 2 := by unfold someI; exact List.length_filter_le _ _
theorem ownsRow_lit' {base g : Nat} {e : TypeId} {xs : List Value} {w : World} (cur : Array Value) (n : Nat) (hb : base ≤ w.heap.size) (hg : g = w.heap.size) (hs : cur.size = n) (hm : n ≤ maxLen) (hx : cur.toList = xs) :
    (w.alloc (.cells cur e)).ownsRow base e 1 (.slice (some ⟨g, 0, none⟩) n n) n xs := by
  subst hg; subst hx; subst hs
  exact ⟨by simp, .inr ⟨w.heap.size, cur.size, cur, rfl, hb, heap_alloc_new w _, Nat.le_refl _, hm, (Nat.mul_one _).symm, List.take_of_length_le (by simp)⟩⟩
set_option maxHeartbeats 6400000 in
set_option maxRecDepth 100000 in
theorem impl_RegsOf_calls (y : GInstr) (w : World) :
    Calls Try.prog 20 #[.agg #[.int .i64 y.Op, .int .i64 y.A, .int .i64 y.B, .int .i64 y.C, .int .i64 y.D, .string y.Name]] w fun e w' => ∃ v, e = .returned v ∧ RdW w' (.s (regsOf y).length ((regsOf y).flatMap eInt)) v ∧ Below w.heap.size w w' := by
  obtain ⟨op, a, b, c, d, nm⟩ := y
  dsimp only
  by_cases e5 : op = 5
  · subst e5
    have HE : Hid (regsOf ⟨5, a, b, c, d, nm⟩ = [b, c]) := rfl
    go_enter Try.func20, Try.ntmps20
    go_wp2
    go_ret
    refine ⟨_, rfl, ?_, ((Below.refl _ _).alloc (Nat.le_refl _) _).alloc (by simp) _⟩
    rw [HE.out]
    exact rdI_lit' (w := w.alloc _) [b, c] 3 (by simp) (by simp)
  by_cases e8 : op = 8
  · subst e8
    have HE : Hid (regsOf ⟨8, a, b, c, d, nm⟩ = [b]) := rfl
    go_enter Try.func20, Try.ntmps20
    go_wp2
    go_ret
    refine ⟨_, rfl, ?_, ((Below.refl _ _).alloc (Nat.le_refl _) _).alloc (by simp) _⟩
    rw [HE.out]
    exact rdI_lit' (w := w.alloc _) [b] 3 (by simp) (by simp)
  by_cases e9 : op = 9
  · subst e9
    have HE : Hid (regsOf ⟨9, a, b, c, d, nm⟩ = [a]) := rfl
    go_enter Try.func20, Try.ntmps20
    go_wp2
    go_ret
    refine ⟨_, rfl, ?_, ((Below.refl _ _).alloc (Nat.le_refl _) _).alloc (by simp) _⟩
    rw [HE.out]
    exact rdI_lit' (w := w.alloc _) [a] 3 (by simp) (by simp)
  by_cases e10 : op = 10
  · subst e10
    have HE : Hid (regsOf ⟨10, a, b, c, d, nm⟩ = [a]) := rfl
    go_enter Try.func20, Try.ntmps20
    go_wp2
    go_ret
    refine ⟨_, rfl, ?_, ((Below.refl _ _).alloc (Nat.le_refl _) _).alloc (by simp) _⟩
    rw [HE.out]
    exact rdI_lit' (w := w.alloc _) [a] 3 (by simp) (by simp)
  by_cases e7 : op = 7
  · subst e7
    have HE : Hid (regsOf ⟨7, a, b, c, d, nm⟩ = someI c d) := rfl
    go_enter Try.func20, Try.ntmps20
    go_wp2_with fail
    obtain ⟨w0, hw0⟩ : ∃ q, q = w.alloc (.cells #[.int .i64 7, .int .i64 a, .int .i64 b, .int .i64 c, .int .i64 d, .string nm] 47) := ⟨_, rfl⟩
    rw [← hw0]
    have HBw : Hid (Below w.heap.size w w0) := by unfold Hid; rw [hw0]; exact (Below.refl _ _).alloc (Nat.le_refl _) _
    have zw : w.heap.size + 1 = w0.heap.size := by rw [hw0]; simp
    rw [zw]
    clear hw0 zw
    obtain ⟨fp, HOWN, HND, HFP⟩ := ownRow_own' (xs := [c, d]) vals_eInt (ownsRow_lit' (base := w0.heap.size) (w := w0) (e := 3) (xs := [.int .i64 c, .int .i64 d]) #[.int .i64 c, .int .i64 d] 2 (Nat.le_refl _) rfl rfl (by decide) rfl) (by simp)
    refine (impl_some_calls _ [c, d] _ _ HOWN HND (by simp)).mono ?_
    rintro e w2 ⟨v2, fp2, rfl, ho2, hn2, hs2, hc2⟩
    have HO2 := Lib.hid ho2
    have HB2 := Lib.hid (((Below.refl w0.heap.size w0).alloc (Nat.le_refl _) (.cells #[.int .i64 c, .int .i64 d] 3)).trans (hc2.below (by simp) (fun k hk => (HFP k hk).1)))
    obtain ⟨A2, c2, rfl, -⟩ := ho2.slice
    clear ho2 hn2 hs2 hc2 HOWN HND HFP
    go_wp2
    go_ret
    refine ⟨_, rfl, ?_, HBw.out.trans (HB2.out.mono HBw.out.size)⟩
    rw [HE.out]
    exact HO2.out.rdw
  by_cases e6 : op = 6
  · subst e6
    have HE : Hid (regsOf ⟨6, a, b, c, d, nm⟩ = [b] ++ someI c d) := rfl
    go_enter Try.func20, Try.ntmps20
    go_wp2
    obtain ⟨w0, hw0⟩ : ∃ q, q = w.alloc (.cells #[.int .i64 6, .int .i64 a, .int .i64 b, .int .i64 c, .int .i64 d, .string nm] 47) := ⟨_, rfl⟩
    rw [← hw0]
    have HK0 : Hid (Blk w0 w.heap.size 47 #[.int .i64 6, .int .i64 a, .int .i64 b, .int .i64 c, .int .i64 d, .string nm]) := by unfold Hid; rw [hw0]; exact Blk.new w _ _
    have HBw : Hid (Below w.heap.size w w0) := by unfold Hid; rw [hw0]; exact (Below.refl _ _).alloc (Nat.le_refl _) _
    have zw : w0.heap.size ≤ w.heap.size + 1 := by rw [hw0]; simp
    have zw' : w.heap.size + 1 ≤ w0.heap.size := by rw [hw0]; simp
    clear hw0
    refine wp_region_U (fun wq => Below w0.heap.size w0 wq ∧ Blk wq w.heap.size 47 #[.int .i64 6, .int .i64 a, .int .i64 b, .int .i64 c, .int .i64 d, .string nm]) [0, 1, 2, 3, 4, 5, 6, 7, 8, 9, 10] (by kernel_rfl) ?_
    have hH_ := (⟨(Below.refl w0.heap.size w0).drew, HK0.out.drew⟩ : (fun wq => Below w0.heap.size w0 wq ∧ Blk wq w.heap.size 47 #[.int .i64 6, .int .i64 a, .int .i64 b, .int .i64 c, .int .i64 d, .string nm]) w0.drew)
    refine wpAnyU_take (i := 0) (v := ?_) rfl (by kernel_rfl) (by kernel_rfl) (by kernel_rfl) (by kernel_rfl) (fun _ _ _ h => h) (Or.inl ⟨by rfl, ?_⟩) hH_ ?_
    rotate_left
    · (intro w hSw; (try dsimp only at hSw); go_simp <;> with_reducible rfl)
    simp only [Act.put, List.setIfInBounds_toArray, List.set_cons_zero, List.set_cons_succ]
    refine wpAnyU_take (i := 1) (v := ?_) rfl (by kernel_rfl) (by kernel_rfl) (by kernel_rfl) (by kernel_rfl) (fun _ _ _ h => h) (Or.inl ⟨by rfl, ?_⟩) hH_ ?_
    rotate_left
    · (intro w hSw; (obtain ⟨hb_, ha0⟩ := hSw; obtain ⟨kc0, kf0⟩ := ha0.rules; go_simp <;> with_reducible rfl))
    simp only [Act.put, List.setIfInBounds_toArray, List.set_cons_zero, List.set_cons_succ]
    refine wpAnyU_take (i := 3) (v := ?_) rfl (by kernel_rfl) (by kernel_rfl) (by kernel_rfl) (by kernel_rfl) (fun _ _ _ h => h) (Or.inl ⟨by rfl, ?_⟩) hH_ ?_
    rotate_left
    · (intro w hSw; (try dsimp only at hSw); go_simp <;> with_reducible rfl)
    simp only [Act.put, List.setIfInBounds_toArray, List.set_cons_zero, List.set_cons_succ]
    refine wpAnyU_take (i := 4) (v := ?_) rfl (by kernel_rfl) (by kernel_rfl) (by kernel_rfl) (by kernel_rfl) (fun _ _ _ h => h) (Or.inl ⟨by rfl, ?_⟩) hH_ ?_
    rotate_left
    · (intro w hSw; (obtain ⟨hb_, ha0⟩ := hSw; obtain ⟨kc0, kf0⟩ := ha0.rules; go_simp <;> with_reducible rfl))
    simp only [Act.put, List.setIfInBounds_toArray, List.set_cons_zero, List.set_cons_succ]
    refine wpAnyU_take (i := 5) (v := ?_) rfl (by kernel_rfl) (by kernel_rfl) (by kernel_rfl) (by kernel_rfl) (fun _ _ _ h => h) (Or.inl ⟨by rfl, ?_⟩) hH_ ?_
    rotate_left
    · (intro w hSw; (try dsimp only at hSw); go_simp <;> with_reducible rfl)
    simp only [Act.put, List.setIfInBounds_toArray, List.set_cons_zero, List.set_cons_succ]
    refine wpAnyU_take (i := 6) (v := ?_) rfl (by kernel_rfl) (by kernel_rfl) (by kernel_rfl) (by kernel_rfl) (fun _ _ _ h => h) (Or.inl ⟨by rfl, ?_⟩) hH_ ?_
    rotate_left
    · (intro w hSw; (obtain ⟨hb_, ha0⟩ := hSw; obtain ⟨kc0, kf0⟩ := ha0.rules; go_simp <;> with_reducible rfl))
    simp only [Act.put, List.setIfInBounds_toArray, List.set_cons_zero, List.set_cons_succ]
    refine wpAnyU_two (i := 2) (j := 7) (by kernel_rfl) rfl rfl (fun K hK => ?_) (fun K hK => ?_)
    · skip
      go_simp
      refine hK.out _ _ ?_ (fun hH1_ => ?_)
      · exact ⟨((Below.refl w0.heap.size w0).alloc (Nat.le_refl _) _).drew, (HK0.out.alloc _).drew⟩
      have HO := (ownsRow_lit' (base := w0.heap.size) (w := w0) (e := 3) (xs := [.int .i64 b]) #[.int .i64 b] 1 (Nat.le_refl _) rfl rfl (by decide) rfl).drew
      clear hK K hH_
      have hH_ := hH1_
      clear hH1_
      refine wpAnyU_one (i := 7) (by kernel_rfl) rfl (fun K hK => ?_)
      go_simp
      refine hK.out _ _ ?_ (fun hH1_ => ?_)
      · exact ⟨hH_.1.alloc hH_.1.size _, hH_.2.alloc _⟩
      obtain ⟨fp, HOWN, HND, HFP⟩ := ownRow_own' (xs := [c, d]) vals_eInt (ownsRow_lit' (base := w0.heap.size) (w := (w0.alloc (.cells #[.int .i64 b] 3)).drew) (e := 3) (xs := [.int .i64 c, .int .i64 d]) #[.int .i64 c, .int .i64 d] 2 hH_.1.size rfl rfl (by decide) rfl) (by simp)
      have HF1 : ∀ k, k ∈ fp → k = (w0.alloc (.cells #[.int .i64 b] 3)).drew.heap.size := fun k hk => by have := (HFP k hk).2; simp [Value.ownBlock] at this; simp; omega
      replace HO := HO.alloc (.cells #[.int .i64 c, .int .i64 d] 3)
      rw [show ((w0.alloc (.cells #[.int .i64 b] 3)).drew).heap.size = w0.heap.size + 1 from by simp] at HOWN HF1 HFP
      clear hK K hH_
      have hH_ := hH1_
      clear hH1_
      refine wpAnyU_one (i := 8) (by kernel_rfl) rfl (fun K hK => ?_)
      go_simp
      refine (impl_some_calls _ [c, d] _ _ HOWN HND (by simp)).mono ?_
      rintro e w2 ⟨v2, fp2, rfl, ho2, hn2, hs2, hc2⟩
      obtain ⟨A2, c2, rfl, -⟩ := ho2.slice
      have hHs := hH_.1.size
      refine hK.out _ _ ?_ (fun hH1_ => ?_)
      · exact ⟨hH_.1.trans (hc2.below hHs (fun k hk => (HFP k hk).1)), hH_.2.chg hc2 (fun h => by have := (HFP _ h).1; omega)⟩
      have HR2 := ho2.rdw
      replace HO := ownsRow_keep HO hc2 (fun k hk hm => by have h1 := (HO.lt k hk).2; have h2 := (HFP k hm).2; have h3 := HF1 k hm; simp [Value.ownBlock] at hk; (try simp at h3); omega)
      clear hK K hH_
      have hH_ := hH1_
      clear hH1_
      refine wpAnyU_one (i := 9) (by kernel_rfl) rfl (fun K hK => ?_)
      refine step_append_rd (by rfl) _ _ 44 (by rfl) w0.heap.size 3 _ _ 1 8 Try.underlying44 rfl rfl rfl rfl rfl (by omega) _ 1 [.int .i64 b] (by rfl) HO vals_eInt (someI c d) (one_eInt _) (lenv_eInt _) _ _ (by rfl) HR2 (by have := someI_len c d; omega) (by omega) hH_.1.size ?_
      intro A4 c4 w3 hown hgrow hat
      have hHw := hH_.1
      have hlo := HO.lt
      refine hK.out _ _ ?_ (fun hH1_ => ?_)
      · exact ⟨hHw.trans (grown_below hgrow hHw.size (fun k hk => (hlo k hk).1)), hH_.2.chg (grown_chg hgrow) (fun h => by have := (hlo _ h).1; omega)⟩
      clear hK K hH_
      have hH_ := hH1_
      clear hH1_
      refine wpAnyU_one' (i := 10) (by kernel_rfl) rfl (by kernel_rfl) (fun K hK => ?_)
      go_simp
      refine hK.out _ _ ?_
      clear hK K
      refine wpAnyU_done (by kernel_rfl) ?_ _
      go_wp2
      go_ret
      refine ⟨_, rfl, ?_, HBw.out.trans (hH_.1.mono HBw.out.size)⟩
      rw [HE.out]
      exact ownsRow_rdw (xs := [b] ++ someI c d) vals_eInt (by rw [List.length_append, List.flatMap_append]; exact hown) (by have := someI_len c d; simp; omega)
    · skip
      go_simp
      refine hK.out _ _ ?_ (fun hH1_ => ?_)
      · exact ⟨((Below.refl w0.heap.size w0).alloc (Nat.le_refl _) _).drew, (HK0.out.alloc _).drew⟩
      obtain ⟨fp, HOWN, HND, HFP⟩ := ownRow_own' (xs := [c, d]) vals_eInt (ownsRow_lit' (base := w0.heap.size) (w := w0) (e := 3) (xs := [.int .i64 c, .int .i64 d]) #[.int .i64 c, .int .i64 d] 2 (Nat.le_refl _) rfl rfl (by decide) rfl).drew (by simp)
      have HF1 : ∀ k, k ∈ fp → k = w0.heap.size := fun k hk => by have := (HFP k hk).2; simp [Value.ownBlock] at this; exact this.symm
      clear hK K hH_
      have hH_ := hH1_
      clear hH1_
      refine wpAnyU_two (i := 2) (j := 8) (by kernel_rfl) rfl rfl (fun K hK => ?_) (fun K hK => ?_)
      · skip
        go_simp
        refine hK.out _ _ ?_ (fun hH1_ => ?_)
        · exact ⟨hH_.1.alloc hH_.1.size _, hH_.2.alloc _⟩
        have HO := ownsRow_lit' (base := w0.heap.size) (w := (w0.alloc (.cells #[.int .i64 c, .int .i64 d] 3)).drew) (e := 3) (xs := [.int .i64 b]) #[.int .i64 b] 1 hH_.1.size rfl rfl (by decide) rfl
        rw [show ((w0.alloc (.cells #[.int .i64 c, .int .i64 d] 3)).drew).heap.size = w0.heap.size + 1 from by simp] at HO
        replace HOWN := HOWN.below ((Below.refl _ (w0.alloc (.cells #[.int .i64 c, .int .i64 d] 3)).drew).alloc (Nat.le_refl _) (.cells #[.int .i64 b] 3))
        clear hK K hH_
        have hH_ := hH1_
        clear hH1_
        refine wpAnyU_one (i := 8) (by kernel_rfl) rfl (fun K hK => ?_)
        go_simp
        refine (impl_some_calls _ [c, d] _ _ HOWN HND (by simp)).mono ?_
        rintro e w2 ⟨v2, fp2, rfl, ho2, hn2, hs2, hc2⟩
        obtain ⟨A2, c2, rfl, -⟩ := ho2.slice
        have hHs := hH_.1.size
        refine hK.out _ _ ?_ (fun hH1_ => ?_)
        · exact ⟨hH_.1.trans (hc2.below hHs (fun k hk => (HFP k hk).1)), hH_.2.chg hc2 (fun h => by have := (HFP _ h).1; omega)⟩
        have HR2 := ho2.rdw
        replace HO := ownsRow_keep HO hc2 (fun k hk hm => by have h1 := (HO.lt k hk).2; have h2 := (HFP k hm).2; have h3 := HF1 k hm; simp [Value.ownBlock] at hk; (try simp at h3); omega)
        clear hK K hH_
        have hH_ := hH1_
        clear hH1_
        refine wpAnyU_one (i := 9) (by kernel_rfl) rfl (fun K hK => ?_)
        refine step_append_rd (by rfl) _ _ 44 (by rfl) w0.heap.size 3 _ _ 1 8 Try.underlying44 rfl rfl rfl rfl rfl (by omega) _ 1 [.int .i64 b] (by rfl) HO vals_eInt (someI c d) (one_eInt _) (lenv_eInt _) _ _ (by rfl) HR2 (by have := someI_len c d; omega) (by omega) hH_.1.size ?_
        intro A4 c4 w3 hown hgrow hat
        have hHw := hH_.1
        have hlo := HO.lt
        refine hK.out _ _ ?_ (fun hH1_ => ?_)
        · exact ⟨hHw.trans (grown_below hgrow hHw.size (fun k hk => (hlo k hk).1)), hH_.2.chg (grown_chg hgrow) (fun h => by have := (hlo _ h).1; omega)⟩
        clear hK K hH_
        have hH_ := hH1_
        clear hH1_
        refine wpAnyU_one' (i := 10) (by kernel_rfl) rfl (by kernel_rfl) (fun K hK => ?_)
        go_simp
        refine hK.out _ _ ?_
        clear hK K
        refine wpAnyU_done (by kernel_rfl) ?_ _
        go_wp2
        go_ret
        refine ⟨_, rfl, ?_, HBw.out.trans (hH_.1.mono HBw.out.size)⟩
        rw [HE.out]
        exact ownsRow_rdw (xs := [b] ++ someI c d) vals_eInt (by rw [List.length_append, List.flatMap_append]; exact hown) (by have := someI_len c d; simp; omega)
      · skip
        go_simp
        refine (impl_some_calls _ [c, d] _ _ HOWN HND (by simp)).mono ?_
        rintro e w2 ⟨v2, fp2, rfl, ho2, hn2, hs2, hc2⟩
        obtain ⟨A2, c2, rfl, -⟩ := ho2.slice
        have hHs := hH_.1.size
        refine hK.out _ _ ?_ (fun hH1_ => ?_)
        · exact ⟨hH_.1.trans (hc2.below hHs (fun k hk => (HFP k hk).1)), hH_.2.chg hc2 (fun h => by have := (HFP _ h).1; omega)⟩
        have HR2 := ho2.rdw
        clear hK K hH_
        have hH_ := hH1_
        clear hH1_
        refine wpAnyU_one (i := 2) (by kernel_rfl) rfl (fun K hK => ?_)
        go_simp
        refine hK.out _ _ ?_ (fun hH1_ => ?_)
        · exact ⟨hH_.1.alloc hH_.1.size _, hH_.2.alloc _⟩
        have HO := ownsRow_lit' (base := w0.heap.size) (w := w2) (e := 3) (xs := [.int .i64 b]) #[.int .i64 b] 1 hH_.1.size rfl rfl (by decide) rfl
        replace HR2 := HR2.alloc (.cells #[.int .i64 b] 3)
        clear hK K hH_
        have hH_ := hH1_
        clear hH1_
        refine wpAnyU_one (i := 9) (by kernel_rfl) rfl (fun K hK => ?_)
        refine step_append_rd (by rfl) _ _ 44 (by rfl) w0.heap.size 3 _ _ 1 8 Try.underlying44 rfl rfl rfl rfl rfl (by omega) _ 1 [.int .i64 b] (by rfl) HO vals_eInt (someI c d) (one_eInt _) (lenv_eInt _) _ _ (by rfl) HR2 (by have := someI_len c d; omega) (by omega) hH_.1.size ?_
        intro A4 c4 w3 hown hgrow hat
        have hHw := hH_.1
        have hlo := HO.lt
        refine hK.out _ _ ?_ (fun hH1_ => ?_)
        · exact ⟨hHw.trans (grown_below hgrow hHw.size (fun k hk => (hlo k hk).1)), hH_.2.chg (grown_chg hgrow) (fun h => by have := (hlo _ h).1; omega)⟩
        clear hK K hH_
        have hH_ := hH1_
        clear hH1_
        refine wpAnyU_one' (i := 10) (by kernel_rfl) rfl (by kernel_rfl) (fun K hK => ?_)
        go_simp
        refine hK.out _ _ ?_
        clear hK K
        refine wpAnyU_done (by kernel_rfl) ?_ _
        go_wp2
        go_ret
        refine ⟨_, rfl, ?_, HBw.out.trans (hH_.1.mono HBw.out.size)⟩
        rw [HE.out]
        exact ownsRow_rdw (xs := [b] ++ someI c d) vals_eInt (by rw [List.length_append, List.flatMap_append]; exact hown) (by have := someI_len c d; simp; omega)
  have HE : Hid (regsOf ⟨op, a, b, c, d, nm⟩ = []) := by unfold Hid regsOf; dsimp only; simp [e5, e6, e7, e8, e9, e10]
  go_enter Try.func20, Try.ntmps20
  go_wp2
  go_ret
  refine ⟨_, rfl, ?_, (Below.refl _ _).alloc (Nat.le_refl _) _⟩
  rw [HE.out]
  exact rd_none _

end Go.Proofs.Ytiohoeafdaihpaa
