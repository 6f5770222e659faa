import Derived.Deep.CutRange
import Derived.Test.YtaalbbhebmpppaaProg
import Derived.Test.YtaalbbhebmpppaaTypes
import Derived.StillTailTactics
import Derived.Deep.CutRange
import Derived.Laws.OwnMore
import Derived.Deep.AppendLies
import Derived.Deep.RegionWith
import Derived.Deep.RegionHeld3
import Derived.Laws.IdiomStrings
import Derived.Test.YtaalbbhebmpppaaAppend
import Derived.Laws.StructEq
import Derived.Lib.SliceRun
import Derived.Shelf.RegionOpenPlain
import Derived.Test.YtaalbbhebmpppaaCommon
import Derived.Test.YtaalbbhebmpppaaSlices
import Derived.Test.YtaalbbhebmpppaaOrders
namespace Go.Proofs.Ytaalbbhebmpppaa
open Go.RowKit
set_option linter.unusedVariables false
set_option linter.unusedSimpArgs false

/-- append(s, x...) at a step of a region that draws its order -/
theorem step_append_rd {P : Program} {w : World} {ops : Array Oper} {o : Oper} {a : Act} {K : Act → World → Prop} {Q : Exit → Act → World → Prop} {E : Prop} (hgd : o.guard = none) (s x : Operand) (t : TypeId)
    (ho : o.op = .call { callee := .builtin .append, args := #[s, x], argTypes := #[t, t] })
    (base : Nat) (e : TypeId) (i : TypeInfo) (z : Value) (size bytes : Nat) (ht : P.underlying t = some (.slice e)) (hi : P.info? e = some i) (hz : i.zero = some z)
    (hsize : i.size = size) (hby : i.bytes = bytes) (hzs : z.cells.size = size) (hsz : 0 < size)
    (v : Value) (n : Nat) (xs : List Value) (hs : a.eval s = v) (hown : w.ownsRow base e size v n xs)
    {α : Type} {en : α → List Lf} {vs : α → List Value} (hvals : ∀ x, en x = (vs x).map Lf.v) (ys : List α) (hone : ∀ u, u ∈ ys.flatMap vs → u.oneCell' = true) (hlenv : (ys.flatMap vs).length = ys.length * size)
    (A : Option Addr) (c : Nat) (hx : a.eval x = .slice A ys.length c) (hr : RdW w (.s ys.length (ys.flatMap en)) (.slice A ys.length c))
    (h63 : n + ys.length ≤ 1099511627776) (hb : bytes ≤ 128) (hbase : base ≤ w.heap.size)
    (h : ∀ A' c' w', w'.ownsRow base e size (.slice A' (n + ys.length) c') (n + ys.length) (xs ++ ys.flatMap vs) → w.grownBy w' v.ownBlock → ((Value.slice A' (n + ys.length) c').ownBlock = v.ownBlock ∨ (Value.slice A' (n + ys.length) c').ownBlock = some w.heap.size) → K (a.put o.dst (.slice A' (n + ys.length) c')) w') :
    if Region.wanted o (yielded ops a.tmps) = true then Oper.wp P o a w K Q else E := by
  have hw : Region.wanted o (yielded ops a.tmps) = true := by simp [Region.wanted, hgd]
  rw [if_pos hw]
  have hcells := hr.cells hvals
  have hmx : maxLen = 9223372036854775807 := by decide
  cases A with
  | none =>
    have h0 : ys.length = 0 := by
      rcases hcells with h | ⟨ad, h, _⟩
      · exact h
      · cases h
    have hy : ys = [] := List.eq_nil_of_length_eq_zero h0
    subst hy
    obtain ⟨A', c', rfl⟩ := ownsRow_sl hown
    have hrun := run_append_owned_noneC (P := P) (w := w) base t o.type e i size ht hi _ n c xs hown
    unfold Oper.wp
    simp only [List.length_nil] at hx
    simp [execOp, ho, resolve, invoke, builtin, hs, hx, hrun, Result.andThen]
    refine h A' c' w ?_ ⟨rfl, rfl, rfl, Nat.le_refl _, fun _ _ _ => rfl⟩ (.inl rfl)
    simpa using hown
  | some ad =>
    have hc : ∀ (j : Nat) u, (ys.flatMap vs)[j]? = some u → w.cell? (ad.add j) = some u := by
      rcases hcells with h | ⟨ad', h, _, hc⟩
      · have hxs : ys = [] := List.eq_nil_of_length_eq_zero h
        subst hxs
        exact fun j u hu => by simp at hu
      · injection h with h; subst h; exact hc
    have hbb : (n + ys.length) * bytes ≤ 1099511627776 * 128 := Nat.mul_le_mul h63 hb
    obtain ⟨v', w', hr, h2, h3, _, h5⟩ := run_append_own_at (P := P) w base t o.type e i z size bytes ht hi hz hsize hby hzs hsz v n xs hown ad ys.length c (ys.flatMap vs) hlenv hc hone (by rw [hmx]; omega) (by omega) hbase
    unfold Oper.wp execOp
    simp only [ho, resolve, invoke, builtin, Sem.run_bind, Sem.run_pure, Result.andThen_ok, List.map_toArray, List.map_cons, List.map_nil, hs, hx, hr]
    obtain ⟨A', c', rfl⟩ := ownsRow_sl h2
    exact h A' c' w' h2 h3 h5
/-- the numbers to which values refer -/
def refVals (xs : List GValue) : List Int := (xs.filter fun v => v.Kind == 1).map (·.N)
theorem refVals_yes {xs : List GValue} {i : Nat} {x : GValue} (h : xs[i]? = some x) (hk : x.Kind = 1) : refVals (xs.take (i + 1)) = refVals (xs.take i) ++ [x.N] := by
  unfold refVals; rw [List.take_add_one, h, List.filter_append]; simp [hk]
theorem refVals_no {xs : List GValue} {i : Nat} {x : GValue} (h : xs[i]? = some x) (hk : ¬ x.Kind = 1) : refVals (xs.take (i + 1)) = refVals (xs.take i) := by
  unfold refVals; rw [List.take_add_one, h, List.filter_append]; simp [hk]
theorem refVals_len (xs : List GValue) : (refVals xs).length ≤ xs.length := by
  unfold refVals; rw [List.length_map]; exact List.length_filter_le _ _
theorem refVals_take_len (xs : List GValue) (i : Nat) : (refVals (xs.take i)).length ≤ i := by
  have h1 := refVals_len (xs.take i)
  rw [List.length_take] at h1
  have : min i xs.length ≤ i := Nat.min_le_left _ _
  omega
def refOne (x : GValue) : List Int := if x.Kind = 1 then [x.N] else []
theorem refVals_step {xs : List GValue} {i : Nat} {x : GValue} (h : xs[i]? = some x) : refVals (xs.take (i + 1)) = refVals (xs.take i) ++ refOne x := by
  unfold refOne
  by_cases hk : x.Kind = 1
  · rw [if_pos hk, refVals_yes h hk]
  · rw [if_neg hk, refVals_no h hk, List.append_nil]
theorem refVals_one (x : GValue) : refVals [x] = refOne x := by
  unfold refVals refOne
  by_cases hk : x.Kind = 1 <;> simp [hk]
def refSent (s : GSent) : List Int := [s.Target, s.Result] ++ refVals s.Args
theorem refSent_len (s : GSent) : (refSent s).length ≤ 2 + s.Args.length := by
  unfold refSent; rw [List.length_append]; have := refVals_len s.Args; simp; omega
def refsOf (e : GEntity) : List Int := refVals e.Slots ++ refVals [e.Value] ++ e.Queue.flatMap refSent
theorem refQ_step {xs : List GSent} {i : Nat} {x : GSent} (h : xs[i]? = some x) : (xs.take (i + 1)).flatMap refSent = (xs.take i).flatMap refSent ++ refSent x := by
  rw [List.take_add_one, h, List.flatMap_append]; simp
theorem refQ_len (xs : List GSent) : (xs.flatMap refSent).length ≤ 2 * xs.length + sizL (xs.flatMap eSent) := by
  induction xs with
  | nil => simp
  | cons x xs ih =>
    rw [List.flatMap_cons, List.length_append, List.flatMap_cons, sizL_append, List.length_cons]
    have h1 := refSent_len x
    have h2 := siz_eSent x
    omega
theorem refQ_take (xs : List GSent) (i : Nat) (h : i ≤ xs.length) : ((xs.take i).flatMap refSent).length ≤ 2 * xs.length + sizL (xs.flatMap eSent) := by
  have h1 := refQ_len (xs.take i)
  have h2 := siz_take_le eSent xs i
  rw [List.length_take] at h1
  omega
theorem refsOf_len (e : GEntity) (h : sizL (eEntity e) ≤ 1048576) : (refsOf e).length ≤ 4194304 := by
  rw [siz_eEntity] at h
  unfold refsOf
  rw [List.length_append, List.length_append]
  have h1 := refVals_len e.Slots
  have h2 := refVals_len [e.Value]
  have h3 := refQ_len e.Queue
  simp only [List.length_cons, List.length_nil] at h2
  omega

set_option maxHeartbeats 3200000 in
set_option maxRecDepth 100000 in
theorem impl_refsIn_row (v : Value) (xs : List GValue) (w : World) (hr : RdW w (.s xs.length (xs.flatMap eValue)) v) (hz : xs.length ≤ 2097152) :
    Calls Try.prog 36 #[v] w fun e w' => ∃ A' c', e = .returned (.slice A' (refVals xs).length c') ∧ w'.ownsRow w.heap.size 3 1 (.slice A' (refVals xs).length c') (refVals xs).length ((refVals xs).flatMap vsInt) ∧ Below w.heap.size w w' := by
  obtain ⟨A, c, rfl, ⟨_, _, hl⟩⟩ := hr.slice
  have HR := Lib.hid hr
  clear hr
  go_enter Try.func36, Try.ntmps36
  go_wp2
  go_loopw [3, 9] (fun a b wr => ∃ (i n : Nat) (A' : Option Addr) (c' : Nat), i ≤ xs.length ∧ n ≤ i ∧ a = .slice A' n c' ∧ b = .int .i64 i ∧ Hid (n = (refVals (xs.take i)).length) ∧ Hid (wr.ownsRow w.heap.size 3 1 (.slice A' n c') n ((refVals (xs.take i)).flatMap vsInt)) ∧ Hid (Below w.heap.size w wr)) (fun a b wr => xs.length - (intOf b).toNat)
  case atStart => exact ⟨0, 0, _, _, by omega, by omega, rfl, rfl, rfl, ownsRow_made' rfl (Nat.le_refl _), (Below.refl _ _).alloc (Nat.le_refl _) _⟩
  case round =>
    obtain ⟨i, n, A', c', hi, hn, rfl, rfl, HN, HO, HB⟩ := hrel
    by_cases hlt : i < xs.length
    · obtain ⟨x, hx⟩ : ∃ x, xs[i]? = some x := ⟨xs[i], List.getElem?_eq_getElem hlt⟩
      obtain ⟨ad, rfl, hab, h0, h1⟩ := row_eValue (HR.out.below HB.out) hx
      have hab' : (ad.add (i * 2)).block < wr.heap.size := by rw [block_of_add]; exact hab
      have hlo := HO.out.lt
      have zr := HB.out.size
      by_cases hk : x.Kind = 1
      · have HS := Lib.hid (refVals_yes hx hk)
        clear hx
        go_wp2_with (at_builtin; refine wpList_append_rd rfl _ _ 30 rfl (w.heap.size) 3 _ _ 1 8 Try.underlying30 rfl rfl rfl rfl rfl (by omega) _ n _ rfl ((HO.out.alloc _).alloc _) vals_eInt [x.N] (one_eInt _) (lenv_eInt _) _ _ rfl (rdW_one' vals_eInt (w := wr.alloc _) x.N 3 (by simp)) (by simp; omega) (by omega) (by simp; omega) ?_)
        intro A2 c2 w4 hown hgrow
        have HB4 := Lib.hid (((HB.out.alloc zr _).alloc (by simp; omega) _).trans (grown_below hgrow (by simp; omega) (fun k hk => (hlo k hk).1)))
        have HN4 : Hid (n + 1 = (refVals (xs.take (i + 1))).length) := by unfold Hid; rw [HS.out, List.length_append, ← HN.out]; rfl
        have HO4 : Hid (w4.ownsRow w.heap.size 3 1 (.slice A2 (n + 1) c2) (n + 1) ((refVals (xs.take (i + 1))).flatMap vsInt)) := by
          unfold Hid; rw [HS.out, List.flatMap_append]; exact hown
        clear hown hgrow hlo
        go_wp2
        go_roundw
        case rel => exact ⟨i + 1, n + 1, A2, c2, by omega, by omega, rfl, by go_num, HN4, HO4, HB4⟩
        case measure => simp [intOf]; omega
      · have HS := Lib.hid (refVals_no hx hk)
        clear hx
        go_wp2
        go_roundw
        case rel => exact ⟨i + 1, n, A', c', by omega, by omega, rfl, by go_num, by unfold Hid; rw [HS.out]; exact HN.out, by unfold Hid; rw [HS.out]; exact HO.out.alloc _, HB.out.alloc zr _⟩
        case measure => simp [intOf]; omega
    · have : i = xs.length := by omega
      subst this
      go_wp2
      go_ret
      have hO := HO.out
      have hN := HN.out
      rw [List.take_length] at hO hN
      subst hN
      exact ⟨A', c', rfl, hO, HB.out⟩
theorem ownsRow_lit' {base g : Nat} {e : TypeId} {xs : List Value} {w : World} (cur : Array Value) (n : Nat) (hb : base ≤ w.heap.size) (hg : g = w.heap.size) (hs : cur.size = n) (hm : n ≤ maxLen) (hx : cur.toList = xs) :
    (w.alloc (.cells cur e)).ownsRow base e 1 (.slice (some ⟨g, 0, none⟩) n n) n xs := by
  subst hg; subst hx; subst hs
  exact ⟨by simp, .inr ⟨w.heap.size, cur.size, cur, rfl, hb, heap_alloc_new w _, Nat.le_refl _, hm, (Nat.mul_one _).symm, List.take_of_length_le (by simp)⟩⟩
set_option maxHeartbeats 3200000 in
set_option maxRecDepth 100000 in
theorem impl_Sent_refs_row (B : Nat) (y : GSent) (A2 : Option Addr) (c2 : Nat) (w : World) (hb : Blk w B 71 #[.int .i64 y.Target, .string y.Name, .slice A2 y.Args.length c2, .int .i64 y.Result, .int .i64 y.Tag.Vat, .int .i64 y.Tag.Entity, .int .i64 y.Tag.Seq]) (hr : RdW w (.s y.Args.length (y.Args.flatMap eValue)) (.slice A2 y.Args.length c2)) (hz : y.Args.length ≤ 1048576) :
    Calls Try.prog 37 #[.pointer (some ⟨B, 0, none⟩)] w fun e w' => ∃ A' c', e = .returned (.slice A' (refSent y).length c') ∧ w'.ownsRow w.heap.size 3 1 (.slice A' (refSent y).length c') (refSent y).length ((refSent y).flatMap vsInt) ∧ Below w.heap.size w w' := by
  have HB := Lib.hid hb
  have HRA := Lib.hid hr
  have hBl := hb.lt
  clear hb hr
  go_enter Try.func37, Try.ntmps37
  go_wp2
  refine wp_region_U (fun wq => Below w.heap.size w wq ∧ Blk wq B 71 #[.int .i64 y.Target, .string y.Name, .slice A2 y.Args.length c2, .int .i64 y.Result, .int .i64 y.Tag.Vat, .int .i64 y.Tag.Entity, .int .i64 y.Tag.Seq]) [0, 1, 2, 3, 4, 5, 6, 7, 8, 9, 10, 11, 12, 13, 14, 15] (by kernel_rfl) ?_
  have hH_ := (⟨(Below.refl w.heap.size w).drew, HB.out.drew⟩ : (fun wq => Below w.heap.size w wq ∧ Blk wq B 71 #[.int .i64 y.Target, .string y.Name, .slice A2 y.Args.length c2, .int .i64 y.Result, .int .i64 y.Tag.Vat, .int .i64 y.Tag.Entity, .int .i64 y.Tag.Seq]) w.drew)
  refine wpAnyU_take (i := 0) (v := ?_) rfl (by kernel_rfl) (by kernel_rfl) (by kernel_rfl) (by kernel_rfl) (fun _ _ _ h => h) (Or.inl ⟨by rfl, ?_⟩) hH_ ?_
  rotate_left
  · (intro w hSw; (try dsimp only at hSw); go_simp <;> with_reducible rfl)
  simp only [Act.put, List.setIfInBounds_toArray, List.set_cons_zero, List.set_cons_succ]
  refine wpAnyU_take (i := 1) (v := ?_) rfl (by kernel_rfl) (by kernel_rfl) (by kernel_rfl) (by kernel_rfl) (fun _ _ _ h => h) (Or.inl ⟨by rfl, ?_⟩) hH_ ?_
  rotate_left
  · (intro w hSw; (try dsimp only at hSw); go_simp <;> with_reducible rfl)
  simp only [Act.put, List.setIfInBounds_toArray, List.set_cons_zero, List.set_cons_succ]
  refine wpAnyU_take (i := 2) (v := ?_) rfl (by kernel_rfl) (by kernel_rfl) (by kernel_rfl) (by kernel_rfl) (fun _ _ _ h => h) (Or.inl ⟨by rfl, ?_⟩) hH_ ?_
  rotate_left
  · (intro w hSw; (try dsimp only at hSw); go_simp <;> with_reducible rfl)
  simp only [Act.put, List.setIfInBounds_toArray, List.set_cons_zero, List.set_cons_succ]
  refine wpAnyU_take (i := 3) (v := ?_) rfl (by kernel_rfl) (by kernel_rfl) (by kernel_rfl) (by kernel_rfl) (fun _ _ _ h => h) (Or.inl ⟨by rfl, ?_⟩) hH_ ?_
  rotate_left
  · (intro w hSw; (obtain ⟨hb_, ha0⟩ := hSw; obtain ⟨kc0, kf0⟩ := ha0.rules; go_simp <;> with_reducible rfl))
  simp only [Act.put, List.setIfInBounds_toArray, List.set_cons_zero, List.set_cons_succ]
  refine wpAnyU_take (i := 4) (v := ?_) rfl (by kernel_rfl) (by kernel_rfl) (by kernel_rfl) (by kernel_rfl) (fun _ _ _ h => h) (Or.inl ⟨by rfl, ?_⟩) hH_ ?_
  rotate_left
  · (intro w hSw; (try dsimp only at hSw); go_simp <;> with_reducible rfl)
  simp only [Act.put, List.setIfInBounds_toArray, List.set_cons_zero, List.set_cons_succ]
  refine wpAnyU_take (i := 5) (v := ?_) rfl (by kernel_rfl) (by kernel_rfl) (by kernel_rfl) (by kernel_rfl) (fun _ _ _ h => h) (Or.inl ⟨by rfl, ?_⟩) hH_ ?_
  rotate_left
  · (intro w hSw; (try dsimp only at hSw); go_simp <;> with_reducible rfl)
  simp only [Act.put, List.setIfInBounds_toArray, List.set_cons_zero, List.set_cons_succ]
  refine wpAnyU_take (i := 6) (v := ?_) rfl (by kernel_rfl) (by kernel_rfl) (by kernel_rfl) (by kernel_rfl) (fun _ _ _ h => h) (Or.inl ⟨by rfl, ?_⟩) hH_ ?_
  rotate_left
  · (intro w hSw; (try dsimp only at hSw); go_simp <;> with_reducible rfl)
  simp only [Act.put, List.setIfInBounds_toArray, List.set_cons_zero, List.set_cons_succ]
  refine wpAnyU_take (i := 7) (v := ?_) rfl (by kernel_rfl) (by kernel_rfl) (by kernel_rfl) (by kernel_rfl) (fun _ _ _ h => h) (Or.inl ⟨by rfl, ?_⟩) hH_ ?_
  rotate_left
  · (intro w hSw; (obtain ⟨hb_, ha0⟩ := hSw; obtain ⟨kc0, kf0⟩ := ha0.rules; go_simp <;> with_reducible rfl))
  simp only [Act.put, List.setIfInBounds_toArray, List.set_cons_zero, List.set_cons_succ]
  refine wpAnyU_take (i := 9) (v := ?_) rfl (by kernel_rfl) (by kernel_rfl) (by kernel_rfl) (by kernel_rfl) (fun _ _ _ h => h) (Or.inl ⟨by rfl, ?_⟩) hH_ ?_
  rotate_left
  · (intro w hSw; (try dsimp only at hSw); go_simp <;> with_reducible rfl)
  simp only [Act.put, List.setIfInBounds_toArray, List.set_cons_zero, List.set_cons_succ]
  refine wpAnyU_take (i := 10) (v := ?_) rfl (by kernel_rfl) (by kernel_rfl) (by kernel_rfl) (by kernel_rfl) (fun _ _ _ h => h) (Or.inl ⟨by rfl, ?_⟩) hH_ ?_
  rotate_left
  · (intro w hSw; (try dsimp only at hSw); go_simp <;> with_reducible rfl)
  simp only [Act.put, List.setIfInBounds_toArray, List.set_cons_zero, List.set_cons_succ]
  refine wpAnyU_take (i := 11) (v := ?_) rfl (by kernel_rfl) (by kernel_rfl) (by kernel_rfl) (by kernel_rfl) (fun _ _ _ h => h) (Or.inl ⟨by rfl, ?_⟩) hH_ ?_
  rotate_left
  · (intro w hSw; (try dsimp only at hSw); go_simp <;> with_reducible rfl)
  simp only [Act.put, List.setIfInBounds_toArray, List.set_cons_zero, List.set_cons_succ]
  refine wpAnyU_take (i := 12) (v := ?_) rfl (by kernel_rfl) (by kernel_rfl) (by kernel_rfl) (by kernel_rfl) (fun _ _ _ h => h) (Or.inl ⟨by rfl, ?_⟩) hH_ ?_
  rotate_left
  · (intro w hSw; (obtain ⟨hb_, ha0⟩ := hSw; obtain ⟨kc0, kf0⟩ := ha0.rules; go_simp <;> with_reducible rfl))
  simp only [Act.put, List.setIfInBounds_toArray, List.set_cons_zero, List.set_cons_succ]
  refine wpAnyU_two (i := 8) (j := 13) (by kernel_rfl) rfl rfl (fun K hK => ?_) (fun K hK => ?_)
  · skip
    go_simp
    refine hK.out _ _ ?_ (fun hH1_ => ?_)
    · exact ⟨((Below.refl w.heap.size w).alloc (Nat.le_refl _) _).drew, (HB.out.alloc _).drew⟩
    have HO := (ownsRow_lit' (base := w.heap.size) (w := w) (e := 3) #[.int .i64 y.Target, .int .i64 y.Result] 2 (Nat.le_refl _) rfl rfl (by decide) rfl).drew
    clear hK K hH_
    have hH_ := hH1_
    clear hH1_
    refine wpAnyU_one (i := 13) (by kernel_rfl) rfl (fun K hK => ?_)
    go_simp
    refine (impl_refsIn_row _ y.Args _ (HRA.out.below hH_.1) (by omega)).mono ?_
    rintro e w2 ⟨A3, c3, rfl, ho2, hb2⟩
    refine hK.out _ _ ?_ (fun hH1_ => ?_)
    · exact ⟨hH_.1.trans (hb2.mono hH_.1.size), hH_.2.below hb2⟩
    replace HO := ownsRow_below HO hb2
    have HR2 := ho2
    clear hK K hH_
    have hH_ := hH1_
    clear hH1_
    refine wpAnyU_one (i := 14) (by kernel_rfl) rfl (fun K hK => ?_)
    refine step_append_rd (by rfl) _ _ 30 (by rfl) w.heap.size 3 _ _ 1 8 Try.underlying30 rfl rfl rfl rfl rfl (by omega) _ 2 [.int .i64 y.Target, .int .i64 y.Result] (by rfl) HO vals_eInt (refVals y.Args) (one_eInt _) (lenv_eInt _) _ _ (by rfl) (ownsRow_rdw vals_eInt HR2 (by have := refVals_len y.Args; omega)) (by have := refVals_len y.Args; omega) (by omega) hH_.1.size ?_
    intro A4 c4 w3 hown hgrow hat
    have hHw := hH_.1
    have hlo := HO.lt
    refine hK.out _ _ ?_ (fun hH1_ => ?_)
    · exact ⟨hHw.trans (grown_below hgrow hHw.size (fun k hk => (hlo k hk).1)), hH_.2.chg (grown_chg hgrow) (fun h => by have := (hlo _ h).1; have := hBl; omega)⟩
    clear hK K hH_
    have hH_ := hH1_
    clear hH1_
    refine wpAnyU_one' (i := 15) (by kernel_rfl) rfl (by kernel_rfl) (fun K hK => ?_)
    go_simp
    refine hK.out _ _ ?_
    clear hK K
    refine wpAnyU_done (by kernel_rfl) ?_ _
    go_wp2
    go_ret
    have hl2 : (refSent y).length = 2 + (refVals y.Args).length := by unfold refSent; rw [List.length_append]; rfl
    rw [hl2]
    exact ⟨A4, c4, rfl, hown, hH_.1⟩
  · skip
    go_simp
    refine (impl_refsIn_row _ y.Args _ (HRA.out.below hH_.1) (by omega)).mono ?_
    rintro e w2 ⟨A3, c3, rfl, ho2, hb2⟩
    refine hK.out _ _ ?_ (fun hH1_ => ?_)
    · exact ⟨hH_.1.trans (hb2.mono hH_.1.size), hH_.2.below hb2⟩
    clear hK K hH_
    have hH_ := hH1_
    clear hH1_
    refine wpAnyU_one (i := 8) (by kernel_rfl) rfl (fun K hK => ?_)
    go_simp
    refine hK.out _ _ ?_ (fun hH1_ => ?_)
    · exact ⟨hH_.1.alloc hH_.1.size _, hH_.2.alloc _⟩
    have HO := ownsRow_lit' (base := w.heap.size) (w := w2) (e := 3) #[.int .i64 y.Target, .int .i64 y.Result] 2 hH_.1.size rfl rfl (by decide) rfl
    have HR2 := ho2.alloc (.cells #[.int .i64 y.Target, .int .i64 y.Result] 3)
    clear hK K hH_
    have hH_ := hH1_
    clear hH1_
    refine wpAnyU_one (i := 14) (by kernel_rfl) rfl (fun K hK => ?_)
    refine step_append_rd (by rfl) _ _ 30 (by rfl) w.heap.size 3 _ _ 1 8 Try.underlying30 rfl rfl rfl rfl rfl (by omega) _ 2 [.int .i64 y.Target, .int .i64 y.Result] (by rfl) HO vals_eInt (refVals y.Args) (one_eInt _) (lenv_eInt _) _ _ (by rfl) (ownsRow_rdw vals_eInt HR2 (by have := refVals_len y.Args; omega)) (by have := refVals_len y.Args; omega) (by omega) hH_.1.size ?_
    intro A4 c4 w3 hown hgrow hat
    have hHw := hH_.1
    have hlo := HO.lt
    refine hK.out _ _ ?_ (fun hH1_ => ?_)
    · exact ⟨hHw.trans (grown_below hgrow hHw.size (fun k hk => (hlo k hk).1)), hH_.2.chg (grown_chg hgrow) (fun h => by have := (hlo _ h).1; have := hBl; omega)⟩
    clear hK K hH_
    have hH_ := hH1_
    clear hH1_
    refine wpAnyU_one' (i := 15) (by kernel_rfl) rfl (by kernel_rfl) (fun K hK => ?_)
    go_simp
    refine hK.out _ _ ?_
    clear hK K
    refine wpAnyU_done (by kernel_rfl) ?_ _
    go_wp2
    go_ret
    have hl2 : (refSent y).length = 2 + (refVals y.Args).length := by unfold refSent; rw [List.length_append]; rfl
    rw [hl2]
    exact ⟨A4, c4, rfl, hown, hH_.1⟩
set_option maxHeartbeats 6400000 in
set_option maxRecDepth 100000 in
theorem impl_RefsOf_row (us : List Value) (x : GEntity) (w : World) (hr : RdLW w (eEntity x) us) (hz : sizL (eEntity x) ≤ 1048576) :
    Calls Try.prog 8 #[.agg us.toArray] w fun e w' => ∃ A' c', e = .returned (.slice A' (refsOf x).length c') ∧ w'.ownsRow w.heap.size 3 1 (.slice A' (refsOf x).length c') (refsOf x).length ((refsOf x).flatMap vsInt) ∧ Below w.heap.size w w' := by
  have hlen := refsOf_len x hz
  have hzq := hz
  rw [siz_eEntity] at hzq
  obtain ⟨v2, v6, v7, rfl, h2, h6, h7⟩ := rd_eEntity hr
  obtain ⟨A2, c2, rfl, ⟨_, _, hl2⟩⟩ := h2.slice
  obtain ⟨A6, c6, rfl, ⟨_, _, hl6⟩⟩ := h6.slice
  have HR2w := Lib.hid h2
  have HR6w := Lib.hid h6
  clear hr h2 h6 h7
  go_enter Try.func8, Try.ntmps8
  go_wp2
  obtain ⟨w0, hw0⟩ : ∃ q, q = w.alloc (.cells #[.int .i64 x.Kind, .int .i64 x.Script, .slice A2 x.Slots.length c2, .int .i64 x.State, .int .i64 x.Value.Kind, .int .i64 x.Value.N, .slice A6 x.Queue.length c6, v7, .int .i64 x.Peer, .int .i64 x.Pos, .int .i64 x.Count, .int .i64 x.Sent] 37) := ⟨_, rfl⟩
  rw [← hw0]
  have HK0 : Hid (Blk w0 w.heap.size 37 #[.int .i64 x.Kind, .int .i64 x.Script, .slice A2 x.Slots.length c2, .int .i64 x.State, .int .i64 x.Value.Kind, .int .i64 x.Value.N, .slice A6 x.Queue.length c6, v7, .int .i64 x.Peer, .int .i64 x.Pos, .int .i64 x.Count, .int .i64 x.Sent]) := by unfold Hid; rw [hw0]; exact Blk.new w _ _
  have HBw : Hid (Below w.heap.size w w0) := by unfold Hid; rw [hw0]; exact (Below.refl _ _).alloc (Nat.le_refl _) _
  have zw : w0.heap.size ≤ w.heap.size + 1 := by rw [hw0]; simp
  have zw' : w.heap.size + 1 ≤ w0.heap.size := by rw [hw0]; simp
  clear hw0
  have HR2 := Lib.hid (HR2w.out.below HBw.out)
  have HR6 := Lib.hid (HR6w.out.below HBw.out)
  go_cut [3] from 6 to 13 (fun p_ wx => ∃ (n : Nat) (A' : Option Addr) (c' : Nat), p_ = .slice A' n c' ∧ n = (refVals x.Slots ++ refVals [x.Value]).length ∧ wx.ownsRow w0.heap.size 3 1 (.slice A' n c') n ((refVals x.Slots ++ refVals [x.Value]).flatMap vsInt) ∧ Below w0.heap.size w0 wx)
  case first =>
    refine wp_region_U (fun wq => Below w0.heap.size w0 wq ∧ Blk wq w.heap.size 37 #[.int .i64 x.Kind, .int .i64 x.Script, .slice A2 x.Slots.length c2, .int .i64 x.State, .int .i64 x.Value.Kind, .int .i64 x.Value.N, .slice A6 x.Queue.length c6, v7, .int .i64 x.Peer, .int .i64 x.Pos, .int .i64 x.Count, .int .i64 x.Sent]) [0, 1, 2, 3, 4, 5, 6, 7, 8] (by kernel_rfl) ?_
    have hH_ := (⟨(Below.refl w0.heap.size w0).drew, HK0.out.drew⟩ : (fun wq => Below w0.heap.size w0 wq ∧ Blk wq w.heap.size 37 #[.int .i64 x.Kind, .int .i64 x.Script, .slice A2 x.Slots.length c2, .int .i64 x.State, .int .i64 x.Value.Kind, .int .i64 x.Value.N, .slice A6 x.Queue.length c6, v7, .int .i64 x.Peer, .int .i64 x.Pos, .int .i64 x.Count, .int .i64 x.Sent]) w0.drew)
    refine wpAnyU_take (i := 0) (v := ?_) rfl (by kernel_rfl) (by kernel_rfl) (by kernel_rfl) (by kernel_rfl) (fun _ _ _ h => h) (Or.inl ⟨by rfl, ?_⟩) hH_ ?_
    rotate_left
    · (intro w hSw; (try dsimp only at hSw); go_simp <;> with_reducible rfl)
    simp only [Act.put, List.setIfInBounds_toArray, List.set_cons_zero, List.set_cons_succ]
    refine wpAnyU_take (i := 1) (v := ?_) rfl (by kernel_rfl) (by kernel_rfl) (by kernel_rfl) (by kernel_rfl) (fun _ _ _ h => h) (Or.inl ⟨by rfl, ?_⟩) hH_ ?_
    rotate_left
    · (intro w hSw; (obtain ⟨hb_, ha0⟩ := hSw; obtain ⟨kc0, kf0⟩ := ha0.rules; go_simp <;> with_reducible rfl))
    simp only [Act.put, List.setIfInBounds_toArray, List.set_cons_zero, List.set_cons_succ]
    refine wpAnyU_take (i := 3) (v := ?_) rfl (by kernel_rfl) (by kernel_rfl) (by kernel_rfl) (by kernel_rfl) (fun _ _ _ h => h) (Or.inl ⟨by rfl, ?_⟩) hH_ ?_
    rotate_left
    · (intro w hSw; (try dsimp only at hSw); go_simp <;> with_reducible rfl)
    simp only [Act.put, List.setIfInBounds_toArray, List.set_cons_zero, List.set_cons_succ]
    refine wpAnyU_take (i := 4) (v := ?_) rfl (by kernel_rfl) (by kernel_rfl) (by kernel_rfl) (by kernel_rfl) (fun _ _ _ h => h) (Or.inl ⟨by rfl, ?_⟩) hH_ ?_
    rotate_left
    · (intro w hSw; (obtain ⟨hb_, ha0⟩ := hSw; obtain ⟨kc0, kf0⟩ := ha0.rules; go_simp <;> with_reducible rfl))
    simp only [Act.put, List.setIfInBounds_toArray, List.set_cons_zero, List.set_cons_succ]
    refine wpAnyU_two (i := 2) (j := 5) (by kernel_rfl) rfl rfl (fun K hK => ?_) (fun K hK => ?_)
    · skip
      go_simp
      refine (impl_refsIn_row _ x.Slots _ (HR2.out.below hH_.1) (by omega)).mono ?_
      rintro e w2 ⟨B1, d1, rfl, ho1, hb1⟩
      refine hK.out _ _ ?_ (fun hH1_ => ?_)
      · exact ⟨hH_.1.trans (hb1.mono hH_.1.size), hH_.2.below hb1⟩
      have HO1 := ho1.mono (hH_.1.size)
      clear hK K hH_
      have hH_ := hH1_
      clear hH1_
      refine wpAnyU_one (i := 5) (by kernel_rfl) rfl (fun K hK => ?_)
      go_simp
      refine hK.out _ _ ?_ (fun hH1_ => ?_)
      · exact ⟨hH_.1.alloc hH_.1.size _, hH_.2.alloc _⟩
      have HV : RdW (w2.alloc (.cells #[.int .i64 x.Value.Kind, .int .i64 x.Value.N] 33)) (.s [x.Value].length ([x.Value].flatMap eValue)) (.slice (some ⟨w2.heap.size, 0, none⟩) 1 1) := rdW_one' vals_eValue (w := w2) x.Value 33 rfl
      replace HO1 := HO1.alloc (.cells #[.int .i64 x.Value.Kind, .int .i64 x.Value.N] 33)
      clear hK K hH_
      have hH_ := hH1_
      clear hH1_
      refine wpAnyU_one (i := 6) (by kernel_rfl) rfl (fun K hK => ?_)
      go_simp
      refine (impl_refsIn_row _ [x.Value] _ HV (by simp)).mono ?_
      rintro e w3 ⟨B2, d2, rfl, ho2, hb2⟩
      refine hK.out _ _ ?_ (fun hH1_ => ?_)
      · exact ⟨hH_.1.trans (hb2.mono hH_.1.size), hH_.2.below hb2⟩
      have HO2 := ho2
      replace HO1 := ownsRow_below HO1 hb2
      clear hK K hH_
      have hH_ := hH1_
      clear hH1_
      refine wpAnyU_one (i := 7) (by kernel_rfl) rfl (fun K hK => ?_)
      refine step_append_rd (by rfl) _ _ 30 (by rfl) w0.heap.size 3 _ _ 1 8 Try.underlying30 rfl rfl rfl rfl rfl (by omega) _ (refVals x.Slots).length ((refVals x.Slots).flatMap vsInt) (by rfl) HO1 vals_eInt (refVals [x.Value]) (one_eInt _) (lenv_eInt _) _ _ (by rfl) (ownsRow_rdw vals_eInt HO2 (by have := refVals_len [x.Value]; simp at this; omega)) (by have := refVals_len [x.Value]; have := refVals_len x.Slots; simp at *; omega) (by omega) hH_.1.size ?_
      intro A4 c4 w4 hown hgrow hat
      have hHw := hH_.1
      have hlo := HO1.lt
      refine hK.out _ _ ?_ (fun hH1_ => ?_)
      · exact ⟨hHw.trans (grown_below hgrow hHw.size (fun k hk => (hlo k hk).1)), hH_.2.chg (grown_chg hgrow) (fun h => by have := (hlo _ h).1; omega)⟩
      clear hK K hH_
      have hH_ := hH1_
      clear hH1_
      refine wpAnyU_one' (i := 8) (by kernel_rfl) rfl (by kernel_rfl) (fun K hK => ?_)
      go_simp
      refine hK.out _ _ ?_
      clear hK K
      refine wpAnyU_done (by kernel_rfl) ?_ _
      go_wp2_with fail
      go_meet
      case rel => exact ⟨_, A4, c4, rfl, (by rw [List.length_append]), (by rw [List.flatMap_append]; exact hown), hH_.1⟩
    · skip
      go_simp
      refine hK.out _ _ ?_ (fun hH1_ => ?_)
      · exact ⟨((Below.refl w0.heap.size w0).alloc (Nat.le_refl _) _).drew, (HK0.out.alloc _).drew⟩
      have HV : RdW (w0.alloc (.cells #[.int .i64 x.Value.Kind, .int .i64 x.Value.N] 33)).drew (.s [x.Value].length ([x.Value].flatMap eValue)) (.slice (some ⟨w0.heap.size, 0, none⟩) 1 1) := (rdW_one' vals_eValue (w := w0) x.Value 33 rfl).drew
      clear hK K hH_
      have hH_ := hH1_
      clear hH1_
      refine wpAnyU_one (i := 2) (by kernel_rfl) rfl (fun K hK => ?_)
      go_simp
      refine (impl_refsIn_row _ x.Slots _ (HR2.out.below hH_.1) (by omega)).mono ?_
      rintro e w2 ⟨B1, d1, rfl, ho1, hb1⟩
      refine hK.out _ _ ?_ (fun hH1_ => ?_)
      · exact ⟨hH_.1.trans (hb1.mono hH_.1.size), hH_.2.below hb1⟩
      have HO1 := ho1.mono (hH_.1.size)
      replace HV := HV.below hb1
      clear hK K hH_
      have hH_ := hH1_
      clear hH1_
      refine wpAnyU_one (i := 6) (by kernel_rfl) rfl (fun K hK => ?_)
      go_simp
      refine (impl_refsIn_row _ [x.Value] _ HV (by simp)).mono ?_
      rintro e w3 ⟨B2, d2, rfl, ho2, hb2⟩
      refine hK.out _ _ ?_ (fun hH1_ => ?_)
      · exact ⟨hH_.1.trans (hb2.mono hH_.1.size), hH_.2.below hb2⟩
      have HO2 := ho2
      replace HO1 := ownsRow_below HO1 hb2
      clear hK K hH_
      have hH_ := hH1_
      clear hH1_
      refine wpAnyU_one (i := 7) (by kernel_rfl) rfl (fun K hK => ?_)
      refine step_append_rd (by rfl) _ _ 30 (by rfl) w0.heap.size 3 _ _ 1 8 Try.underlying30 rfl rfl rfl rfl rfl (by omega) _ (refVals x.Slots).length ((refVals x.Slots).flatMap vsInt) (by rfl) HO1 vals_eInt (refVals [x.Value]) (one_eInt _) (lenv_eInt _) _ _ (by rfl) (ownsRow_rdw vals_eInt HO2 (by have := refVals_len [x.Value]; simp at this; omega)) (by have := refVals_len [x.Value]; have := refVals_len x.Slots; simp at *; omega) (by omega) hH_.1.size ?_
      intro A4 c4 w4 hown hgrow hat
      have hHw := hH_.1
      have hlo := HO1.lt
      refine hK.out _ _ ?_ (fun hH1_ => ?_)
      · exact ⟨hHw.trans (grown_below hgrow hHw.size (fun k hk => (hlo k hk).1)), hH_.2.chg (grown_chg hgrow) (fun h => by have := (hlo _ h).1; omega)⟩
      clear hK K hH_
      have hH_ := hH1_
      clear hH1_
      refine wpAnyU_one' (i := 8) (by kernel_rfl) rfl (by kernel_rfl) (fun K hK => ?_)
      go_simp
      refine hK.out _ _ ?_
      clear hK K
      refine wpAnyU_done (by kernel_rfl) ?_ _
      go_wp2_with fail
      go_meet
      case rel => exact ⟨_, A4, c4, rfl, (by rw [List.length_append]), (by rw [List.flatMap_append]; exact hown), hH_.1⟩
  obtain ⟨n0, A0, c0, rfl, hn0, ho0, hb0⟩ := hcut
  rename World => w1
  have HN0 := Lib.hid hn0
  have HO0 := Lib.hid ho0
  have HB0 := Lib.hid hb0
  have hn0l : n0 ≤ 1048577 := by
    rw [hn0, List.length_append]
    have h1 := refVals_len x.Slots
    have h2 := refVals_len [x.Value]
    simp only [List.length_cons, List.length_nil] at h2
    omega
  have HK1 := Lib.hid (HK0.out.below hb0)
  obtain ⟨k1, j1⟩ := HK1.out.rules
  have l1 := HK1.out.lt
  obtain ⟨L0, hL0⟩ : ∃ l, l = refVals x.Slots ++ refVals [x.Value] := ⟨_, rfl⟩
  rw [← hL0] at HN0 HO0
  have HL0 := Lib.hid hL0
  clear hn0 ho0 hb0 hL0
  go_wp2
  go_loopw [3, 17] (fun a b wr => ∃ (i n : Nat) (A' : Option Addr) (c' : Nat), i ≤ x.Queue.length ∧ n ≤ 4194304 ∧ a = .slice A' n c' ∧ b = .int .i64 i ∧ Hid (n = (L0 ++ (x.Queue.take i).flatMap refSent).length) ∧ Hid (wr.ownsRow w0.heap.size 3 1 (.slice A' n c') n ((L0 ++ (x.Queue.take i).flatMap refSent).flatMap vsInt)) ∧ Hid (Below w0.heap.size w0 wr)) (fun a b wr => x.Queue.length - (intOf b).toNat)
  case atStart => exact ⟨0, n0, A0, c0, by omega, by omega, rfl, rfl, by simpa [Hid] using HN0.out, by simpa [Hid] using HO0.out, HB0⟩
  case round =>
    obtain ⟨i, n, A', c', hi, hn, rfl, rfl, HN, HO, HB⟩ := hrel
    by_cases hlt : i < x.Queue.length
    · obtain ⟨y, hy⟩ : ∃ y, x.Queue[i]? = some y := ⟨x.Queue[i], List.getElem?_eq_getElem hlt⟩
      obtain ⟨ad, v3, rfl, hab, h0, h1, h2, h3, h4, h5, h6, q3⟩ := row_eSent (HR6.out.below HB.out) hy
      have hab' : (ad.add (i * 7)).block < wr.heap.size := by rw [block_of_add]; exact hab
      obtain ⟨A3, c3, rfl, -⟩ := q3.slice
      have hym : y.Args.length ≤ 1048576 := by
        have h1 := sizL_flat_le eSent x.Queue y (List.mem_of_getElem? hy)
        rw [siz_eSent] at h1; omega
      have HS := Lib.hid (refQ_step hy)
      have hlen2 : n + (refSent y).length ≤ 4194304 := by
        have h1 := refQ_take x.Queue (i + 1) (by omega)
        rw [refQ_step hy, List.length_append] at h1
        have h2 := HN.out
        rw [List.length_append] at h2
        have h3 := HN0.out
        omega
      have zr := HB.out.size
      have hlo := HO.out.lt
      have HC := Lib.hid (impl_Sent_refs_row wr.heap.size y A3 c3 (wr.alloc (.cells #[.int .i64 y.Target, .string y.Name, .slice A3 y.Args.length c3, .int .i64 y.Result, .int .i64 y.Tag.Vat, .int .i64 y.Tag.Entity, .int .i64 y.Tag.Seq] 71)) (Blk.new wr _ _) (q3.alloc _) hym)
      clear hy q3
      go_wp2_with fail
      refine HC.out.mono ?_
      rintro e w2 ⟨B2, d2, rfl, ho2, hb2⟩
      have HO2 := Lib.hid ho2
      have HBw2 := Lib.hid (((Below.refl wr.heap.size wr).alloc (Nat.le_refl _) (.cells #[.int .i64 y.Target, .string y.Name, .slice A3 y.Args.length c3, .int .i64 y.Result, .int .i64 y.Tag.Vat, .int .i64 y.Tag.Entity, .int .i64 y.Tag.Seq] 71)).trans (hb2.mono (by simp)))
      have HOw2 := Lib.hid (ownsRow_below HO.out HBw2.out)
      have z2 := HBw2.out.size
      clear ho2 hb2
      go_wp2_with (at_builtin; refine wpList_append_rd rfl _ _ 30 rfl (w0.heap.size) 3 _ _ 1 8 Try.underlying30 rfl rfl rfl rfl rfl (by omega) _ n _ rfl HOw2.out vals_eInt (refSent y) (one_eInt _) (lenv_eInt _) _ _ rfl (ownsRow_rdw vals_eInt HO2.out (by omega)) (by omega) (by omega) (by omega) ?_)
      intro A4 c4 w4 hown hgrow
      have HB4 := Lib.hid ((HB.out.trans (HBw2.out.mono zr)).trans (grown_below hgrow (by omega) (fun k hk => (hlo k hk).1)))
      have HN4 : Hid (n + (refSent y).length = (L0 ++ (x.Queue.take (i + 1)).flatMap refSent).length) := by unfold Hid; rw [HS.out, ← List.append_assoc, List.length_append, ← HN.out]
      have HO4 : Hid (w4.ownsRow w0.heap.size 3 1 (.slice A4 (n + (refSent y).length) c4) (n + (refSent y).length) ((L0 ++ (x.Queue.take (i + 1)).flatMap refSent).flatMap vsInt)) := by
        unfold Hid; rw [HS.out]; simp only [List.flatMap_append, List.append_assoc] at hown ⊢; exact hown
      clear hown hgrow hlo
      obtain ⟨n4, hn4⟩ : ∃ q, q = n + (refSent y).length := ⟨_, rfl⟩
      rw [← hn4] at HN4 HO4 hlen2
      rw [← hn4]
      clear hn4
      go_wp2
      go_roundw
      case rel => exact ⟨i + 1, n4, A4, c4, by omega, hlen2, rfl, by go_num, HN4, HO4, HB4⟩
      case measure => simp [intOf]; omega
    · have : i = x.Queue.length := by omega
      subst this
      go_wp2
      go_ret
      have hO := HO.out
      have hN := HN.out
      rw [List.take_length, HL0.out] at hO hN
      have hN' : n = (refsOf x).length := hN
      have hO' : wr.ownsRow w0.heap.size 3 1 (.slice A' n c') n ((refsOf x).flatMap vsInt) := hO
      subst hN'
      exact ⟨A', c', rfl, hO'.mono (by omega), HBw.out.trans (HB.out.mono (by omega))⟩
theorem impl_RefsOf_calls (us : List Value) (x : GEntity) (w : World) (hr : RdLW w (eEntity x) us) (hz : sizL (eEntity x) ≤ 1048576) :
    Calls Try.prog 8 #[.agg us.toArray] w fun e w' => ∃ v' fp, e = .returned v' ∧ Own w' (.s (refsOf x).length ((refsOf x).flatMap eInt)) v' fp ∧ Fresh w fp ∧ Below w.heap.size w w' :=
  (impl_RefsOf_row us x w hr hz).mono fun e w' ⟨A', c', he, ho, hb⟩ => by
    obtain ⟨fp, ho', hn', hge⟩ := ownRow_own vals_eInt ho (by have := refsOf_len x hz; omega)
    exact ⟨_, fp, he, ho', ⟨hn', hge⟩, hb⟩

end Go.Proofs.Ytaalbbhebmpppaa
