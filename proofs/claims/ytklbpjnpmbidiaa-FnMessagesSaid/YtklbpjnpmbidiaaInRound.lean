/- A range over a function whose body calls no Go function: what is walked plainly is walked in a round too; no program in sight. -/
import Derived.Test.YtklbpjnpmbidiaaBase
import Derived.RangeFuncFrom
import Derived.RangeFuncLeaves
import Derived.OrdersIn
import Derived.TacticsIn
import Derived.Laws.ResultCell
import Derived.Lib.OwnKind
import Derived.Test.YtklbpjnpmbidiaaAppend
namespace Go.Proofs.Ytklbpjnpmbidiaa
open Go.RowKit
set_option linter.unusedVariables false
set_option linter.unusedSimpArgs false

section
variable {P : Program} {ops : Array Oper} {Q : Exit → Act → World → Prop} {md : Region.Mode} {l n : Nat}

theorem rows_inRound {row : String} {args : Array Value} {w : World} {R : Value → World → Prop} (h : Rows P row args w R) : RowsIn (Fence.wide.inRound l) n P row args w R :=
  fun c cs _ => let ⟨v, w', r, s⟩ := h c cs; ⟨v, w', r, stepsIn_wide.2 s⟩
theorem calls_inRound {f : FuncId} {args : Array Value} {w : World} {R : Ending → World → Prop} (h : Calls P f args w R) : CallsIn (Fence.wide.inRound l) n P f args w R :=
  (callsIn_wide (n := n)).2 h
theorem wp_inRound {o : Oper} {a : Act} {w : World} {K : Act → World → Prop} (hd : ∀ c, o.op ≠ .defer c) (h : o.wp P a w K Q) : o.wpIn (Fence.wide.inRound l) n P a w K Q := by
  refine ⟨fun _ _ => trivial, ?_⟩
  rw [Oper.semAt_eq _ _ _ hd]
  unfold Oper.wp at h
  generalize (execOp a.eval o).run P w = r at *
  cases r with
  | ok x w' =>
    cases x with
    | value v => exact h
    | skip => exact h
    | enter f args => exact ⟨fun hh => by simp [Fence.inRound, Fence.wide] at hh, CallsIn.mono (calls_inRound h) (fun e w'' he => by cases e <;> exact he)⟩
    | round => exact h.elim
    | defer d => exact h
    | row r args => exact ⟨fun hh => by simp [Fence.inRound, Fence.wide] at hh, rows_inRound h⟩
    | _ => exact h.elim
  | halt x w' => cases x <;> first | exact h | exact h.elim
theorem any_inRound (hd : ∀ (i : Nat) (o : Oper), ops[i]? = some o → ∀ c, o.op ≠ .defer c) (hL : ¬ LetsOut Q) : ∀ (fuel : Nat) (listed : Array Bool) (a : Act) (w : World), wpAny P md ops Q fuel listed a w → wpAnyIn (Fence.wide.inRound l) n P md ops Q fuel listed a w
  | 0, _, _, _, h => h
  | fuel + 1, listed, a, w, h => ⟨h.1, fun i hi => by
    have h2 := h.2 i hi
    unfold wpOp at h2
    unfold wpOpIn
    cases ho : ops[i]? with
    | none => rw [ho] at h2; exact any_inRound hd hL fuel _ _ _ h2
    | some o =>
      rw [ho] at h2
      simp only at h2 ⊢
      split
      · rename_i hw
        rw [if_pos hw] at h2
        rcases h2 with h2 | ⟨_, h2⟩
        · exact Oper.wpIn_mono (fun a w h => any_inRound hd hL fuel _ _ _ h) (wp_inRound (hd i o ho) h2)
        · exact absurd h2 hL
      · rename_i hw
        rw [if_neg hw] at h2
        exact ⟨fun _ _ => trivial, any_inRound hd hL fuel _ _ _ h2⟩⟩
theorem region_inRound {id : Nat} {a : Act} {w : World} (hm : P.follows .mixedOrders = true) (hd : ∀ (i : Nat) (o : Oper), ops[i]? = some o → ∀ c, o.op ≠ .defer c) (hL : ¬ LetsOut Q)
    (h : wpAny P .any ops Q ops.size (Array.replicate ops.size false) a w.drew) : (Code.region id ops true).wpIn (Fence.wide.inRound l) n P Q a w :=
  wpIn_region_any hm (any_inRound hd hL _ _ _ _ h)
theorem list_inRound (hL : ¬ LetsOut Q) : ∀ (rest : List Oper), (∀ o, o ∈ rest → ∀ c, o.op ≠ .defer c) → ∀ (a : Act) (w : World), wpList P ops Q rest a w → wpListIn (Fence.wide.inRound l) n P ops Q rest a w
  | [], _, _, _, h => h
  | o :: rest, hd, a, w, h => by
    unfold wpList at h
    unfold wpListIn
    split
    · rename_i hw
      rw [if_pos hw] at h
      rcases h with h | ⟨_, h⟩
      · exact Oper.wpIn_mono (fun a w h => list_inRound hL rest (fun o ho => hd o (by simp [ho])) a w h) (wp_inRound (hd o (by simp)) h)
      · exact absurd h hL
    · rename_i hw
      rw [if_neg hw] at h
      exact ⟨fun _ _ => trivial, list_inRound hL rest (fun o ho => hd o (by simp [ho])) _ _ h⟩
end

def nodefer (ops : Array Oper) : Bool := ops.toList.all fun o => match o.op with | .defer _ => false | _ => true
theorem nodefer_spec {ops : Array Oper} (h : nodefer ops = true) : ∀ (i : Nat) (o : Oper), ops[i]? = some o → ∀ c, o.op ≠ .defer c := by
  intro i o hi c hc
  unfold nodefer at h
  rw [List.all_eq_true] at h
  have h2 := h o (by rw [← Array.getElem?_toList] at hi; exact List.mem_of_getElem? hi)
  rw [hc] at h2
  cases h2
theorem owns_cap {w : World} {base : Nat} {e : TypeId} {sz n c : Nat} {A : Option Addr} {xs : List Value} (h : w.ownsRow base e sz (.slice A n c) n xs) : n ≤ c := by
  rcases h.2 with ⟨h0, h1⟩ | ⟨g, cap, cur, h0, _, _, h1, _⟩
  · omega
  · injection h0 with _ _ h2; omega
/-- a range over a function with one variable, whose body neither returns nor leaves the loop -/
theorem range_wide {P : Program} {α : Type} {g : Operand} {p q id : Nat} {o : Oper} {body : Code} {Q : Exit → Act → World → Prop} {a : Act} {w : World} {gf : Nat} {lb : Array Value}
    (hg : a.eval g = .func (.func gf) #[] lb) (eg : ∀ args w, (callFunc gf args).run P w = .ok (.enter gf args) w) {enc : α → Value} {Kp : World → World → Prop} {S : List α → Prop} {N : Nat} {w0 : World}
    (hseq : SeqStopsK Fence.wide 4 P gf lb (fun x => #[enc x]) Kp S (fun _ => True) N w0) (hKt : ∀ {A B C : World}, Kp A B → Kp B C → Kp A C)
    (hKb : ∀ (W : World) (l : Nat) (o o' : Obj), w.heap.size ≤ l → W.heap[l]? = some o → o.isCells = false → o.isWalk = false → Kp W (W.putObj l o')) (hb0 : Below w0.heap.size w0 w)
    (I : List α → World → Prop) (hI : OwnFrom w.heap.size I) (h0 : I [] w) (ho : o.op = .assign (.tmp p)) (hgd : o.guard = none) (hd : o.dst = some q) (hp : p < a.tmps.size)
    (hbody : ∀ (l : Nat) (pre : List α) (x : α) (W : World), I pre W → pre.length < N → body.wpIn (Fence.wide.inRound l) 3 P (ownPostK Kp I (fun _ _ _ => False) (pre ++ [x]) W) { tmps := (a.tmps.setIfInBounds p (enc x)).setIfInBounds q (enc x), defers := [] } W)
    (hdone : ∀ (D : Nat) (xs : List α) (W : World), w.heap.size ≤ D → S xs → I xs W → W.heap[D]? = some (.deferred (some [])) → Q .normal { a with defers := { target := .collected D, args := #[] } :: a.defers } W) :
    (Code.rangeFunc g #[p] (Code.region id #[o] false) body).wp P Q a w := by
  refine (wpIn_wide (n := 5)).1 (wpIn_rangeFunc_ownF (F := Fence.wide) rfl (by omega) hg trivial eg hseq hKt hKb hb0 (fun _ => rfl) I (fun _ _ _ => False) hI (fun _ s W W' row h _ _ => h) h0
    (fun x => { tmps := (a.tmps.setIfInBounds p (enc x)).setIfInBounds q (enc x), defers := [] }) ?_ hbody hdone (fun D c pre W _ _ h => h.elim))
  intro l x W K hK
  refine wpIn_region_list (list_inRound ?_ _ ?_ _ _ ?_)
  · rintro ⟨a, w, h⟩; exact h
  · intro o' h' c
    have h2 := List.mem_singleton.1 h'
    subst h2
    rw [ho]; simp
  · show wpList P #[o] _ [o] _ _
    unfold wpList
    rw [if_pos (by simp [Region.wanted, hgd])]
    left
    have hv : ({ tmps := ((#[p].zip #[enc x]).foldl (fun t (q : Tmp × Value) => t.setIfInBounds q.1 q.2) a.tmps), defers := [] } : Act).eval (.tmp p) = enc x := by
      simp [Act.eval, hp]
    unfold Oper.wp
    simp only [execOp, ho]
    have hK' := hK
    simp [Act.put, hd, wpList, Exit.then, Oper.upon, Sem.run_pure] at hv ⊢
    rw [hv]
    exact hK'
/-- the block of a range's deferred calls -/
def Dfd (W : World) (D : Nat) : Prop := W.heap[D]? = some (.deferred (some []))
theorem Dfd.lt {W : World} {D : Nat} (h : Dfd W D) : D < W.heap.size := (Array.getElem?_eq_some_iff.1 h).1
theorem Dfd.below {W W' : World} {D : Nat} (h : Dfd W D) (hb : Below W.heap.size W W') : Dfd W' D := (hb.block D h.lt).trans h
theorem Dfd.chg {T : Nat → Prop} {W W' : World} {D : Nat} (h : Dfd W D) (hc : Chg T W W') (hT : ¬ T D) : Dfd W' D := (hc.block D h.lt hT).trans h
theorem postM_of_post {P : Program} {fn : Func} {R : Ending → World → Prop} {a : Act} {w : World} (h : bodyPost P fn R .ret a w) : bodyPostM Fence.wide 5 P fn R .ret a w := by
  obtain ⟨hf, v, hr, hR⟩ := h
  show LeavesInM Fence.wide 5 P fn a.tmps R a.defers .returning w
  rw [hf]
  exact ⟨v, hr, hR⟩
theorem post_cell2M {P : Program} {fn : Func} {R : Ending → World → Prop} {a : Act} {w w0 : World} {p u : Tmp} {ty : TypeId} (D : Nat) (T : Nat → Prop) (h : fn.results = #[.cell p ty, .tmp u]) (g : Nat) (cs : Array Value) (r : Value) (d : TypeDesc)
    (hp : a.tmps.getD p undef = .pointer (some ⟨g, 0, none⟩)) (hg : Blk w g ty cs) (hu : P.underlying ty = some d) (hd : (match d with | .struct _ | .array _ _ => true | _ => false) = true) (hi : (P.info? ty).map (·.size) = some cs.size)
    (hr : a.tmps.getD u undef = r) (hf : a.defers = [{ target := .collected D, args := #[] }]) (hc : Chg T w0 w) (hD : Dfd w0 D) (hT : ¬ T D) (hgD : g ≠ D)
    (hR : ∀ W, Chg (fun k => T k ∨ k = D) w0 W → R (.returned (.tuple #[.agg cs, r])) W) : bodyPostM Fence.wide 5 P fn R .ret a w := by
  have hD' := hD.chg hc hT
  show LeavesInM Fence.wide 5 P fn a.tmps R a.defers .returning w
  rw [hf]
  refine ⟨by simp, .inl ⟨D, _, rfl, run_takeDeferred hD', ?_⟩⟩
  have hg2 : Blk (w.putObj D (.deferred none)) g ty cs := (World.putObj_heap_other hgD).trans hg
  refine ⟨.tuple #[.agg cs, r], ?_, hR _ ((hc.mono (fun k _ h => .inl h)).trans ?_)⟩
  · rw [results_cell_tmp h, hp, hr]
    simp [asAddr, run_loadVar_row (w.putObj D (.deferred none)) g ty ty cs (0, 0) d hg2 hu hd hi]
  · exact ⟨rfl, rfl, rfl, by simp [World.putObj], fun k hk hT => World.putObj_heap_other (fun e => hT (.inr e))⟩
/-- what a step on blocks that are no cells, from B on, leaves -/
theorem Blk.kept {W W' : World} {row : Option Nat} {g : Nat} {t : TypeId} {cs : Array Value} (h : Blk W g t cs) (hg : W.grownBy W' row) (hr : ∀ r, row = some r → ∃ o : Obj, W.heap[r]? = some o ∧ o.isCells = false) : Blk W' g t cs := by
  refine (hg.block g h.lt ?_).trans h
  intro e
  obtain ⟨o, ho, hc⟩ := hr g e.symm
  rw [show W.heap[g]? = _ from h] at ho
  injection ho with ho
  subst ho
  cases hc
theorem ownsRow_kept2 {W W' : World} {row : Option Nat} {base : Nat} {e : TypeId} {sz n : Nat} {v : Value} {xs : List Value} (h : W.ownsRow base e sz v n xs) (hg : W.grownBy W' row) (hr : ∀ r, row = some r → ∃ o : Obj, W.heap[r]? = some o ∧ o.isCells = false) : W'.ownsRow base e sz v n xs := by
  refine h.kept hg ?_
  cases hv : v.ownBlock with
  | none => exact .inl rfl
  | some k =>
    refine .inr (fun e' => ?_)
    obtain ⟨o, ho, hc⟩ := hr k e'.symm
    obtain ⟨c, fz, hk⟩ := Lib.ownsRow_kind h k hv
    rw [hk] at ho
    injection ho with ho
    subst ho
    cases hc
theorem Chg.kept {T : Nat → Prop} {A W W' : World} {row : Option Nat} {B : Nat} (h : Chg T A W) (hg : W.grownBy W' row) (hr : ∀ r, row = some r → B ≤ r) (hB : ∀ k, k < A.heap.size → B ≤ k → T k) : Chg T A W' := by
  refine ⟨hg.os.trans h.os, hg.tape.trans h.tape, hg.output.trans h.output, Nat.le_trans h.size hg.size, fun k hk hT => ?_⟩
  exact (hg.block k (Nat.lt_of_lt_of_le hk h.size) (fun e => hT (hB k hk (hr k e.symm)))).trans (h.block k hk hT)
theorem kept_of_row {W W' : World} {base : Nat} {e : TypeId} {sz n : Nat} {v : Value} {xs : List Value} (h : W.ownsRow base e sz v n xs) (hg : W.grownBy W' v.ownBlock) : KeepsOthers W W' :=
  KeepsOthers.of_grownBy hg (fun j o hj ho => by
    obtain ⟨c, fz, hk⟩ := Lib.ownsRow_kind h j hj
    rw [hk] at ho
    injection ho with ho
    subst ho; rfl)
end Go.Proofs.Ytklbpjnpmbidiaa
