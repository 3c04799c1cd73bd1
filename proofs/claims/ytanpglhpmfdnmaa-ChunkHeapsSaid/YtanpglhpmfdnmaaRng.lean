/-
  A RANGE OVER A FUNCTION WHOSE ITERATOR KEEPS ITS STATE IN A CELL: the statement's law; a round's region by the plain walk's laws.
-/
import Derived.RangeFuncNested
import Derived.RangeFuncBound
import Derived.RangeFuncCalls
import Derived.RangeFuncLeaves
import Derived.WalkKit
import Derived.OwnWalkIn
import Derived.TacticsInMore
import Derived.LoopNIn
import Derived.LoopIn
import Derived.OrdersHeld
import Derived.Test.YtanpglhpmfdnmaaHeapM
namespace Go.Proofs.Ytanpglhpmfdnmaa
open Go.RowKit
set_option linter.unusedVariables false
section
variable {P : Program} {l n : Nat} {Q : Exit → Act → World → Prop}
theorem bridge_op {o : Oper} {a : Act} {w : World} {K : Act → World → Prop} (hnd : ∀ c, o.op ≠ .defer c) (h : o.wp P a w K Q) : o.wpIn (Fence.wide.inRound l) n P a w K Q := by
  refine ⟨fun _ _ => trivial, ?_⟩
  rw [Oper.semAt_plain _ _ _ hnd]
  unfold Oper.wp at h
  generalize (execOp a.eval o).run P w = r at *
  cases r with
  | ok x w' =>
    cases x
    case value v => exact h
    case skip => exact h
    case defer d => exact h
    case enter f args =>
      refine ⟨fun hd => by simp [Fence.wide, Fence.inRound] at hd, CallsIn.inRound l (callsIn_wide.2 ?_)⟩
      exact Calls.mono h (fun e w'' he => by cases e <;> exact he)
    case row row args =>
      refine ⟨fun hd => by simp [Fence.wide, Fence.inRound] at hd, fun c cs _ => ?_⟩
      obtain ⟨v, w'', hr, hs⟩ := h c cs
      exact ⟨v, w'', hr, stepsIn_wide.2 hs⟩
    all_goals exact h.elim
  | halt x w' =>
    cases x <;> first | exact h | exact h.elim
theorem bridge_any {md : Region.Mode} {ops : Array Oper} (hnd : ∀ (i : Nat) (o : Oper), ops[i]? = some o → ∀ c, o.op ≠ .defer c) (hQ : ¬ LetsOut Q) : ∀ (fuel : Nat) (listed : Array Bool) (a : Act) (w : World), wpAny P md ops Q fuel listed a w → wpAnyIn (Fence.wide.inRound l) n P md ops Q fuel listed a w
  | 0, _, _, _, h => h
  | fuel + 1, listed, a, w, h => by
    refine ⟨h.1, fun i hi => ?_⟩
    have h2 := h.2 i hi
    unfold wpOp at h2
    unfold wpOpIn
    split
    · rename_i ho
      simp only [ho] at h2
      exact bridge_any hnd hQ fuel _ _ _ h2
    · rename_i o ho
      simp only [ho] at h2
      by_cases hw : Region.wanted o (yielded ops a.tmps) = true
      · rw [if_pos hw] at h2 ⊢
        rcases h2 with h2 | ⟨_, h2⟩
        · exact Oper.wpIn_mono (fun a w hh => bridge_any hnd hQ fuel _ _ _ hh) (bridge_op (hnd i o ho) h2)
        · exact (hQ h2).elim
      · rw [if_neg hw] at h2 ⊢
        exact ⟨fun _ _ => trivial, bridge_any hnd hQ fuel _ _ _ h2⟩
/-- a drawn region of a round, by the laws of the small heap -/
theorem hw_startIn {a : Act} {w0 w : World} (L1 L0 : List Item) (H : Hp w0 w (L1 ++ L0)) {id : Nat} {ops : List Oper} (hm : P.follows .mixedOrders = true) (hnd : ops.all (fun o => match o.op with | .defer _ => false | _ => true) = true) (hQ : ¬ LetsOut Q)
    (h : ∀ w', Hp w0 w' (L1 ++ L0) → wpAnyH P .any ops.toArray Q (HpW w0 L0) ops.length (Array.replicate ops.length false) a w') : (Code.region id ops.toArray true).wpIn (Fence.wide.inRound l) n P Q a w := by
  refine wpIn_region_any hm (bridge_any ?_ hQ _ _ _ _ (wpAny_of_held (S := HpW w0 L0) _ _ _ _ ?_))
  · intro i o ho c hc
    have hmem : o ∈ ops := List.mem_of_getElem? (by simpa using ho)
    have := List.all_eq_true.1 hnd o hmem
    rw [hc] at this
    cases this
  · have := h w.drew H.drew
    rw [List.size_toArray]
    exact this
end
def Item.isObj : Item → Bool
  | .obj _ _ => true
  | _ => false
/-- what is no cells is no item's -/
theorem Hp.footNe {w0 w : World} {L : List Item} (H : Hp w0 w L) (hL : ∀ x ∈ L, x.isObj = false) {g : Nat} {o : Obj} (hg : w.heap[g]? = some o) (ho : o.isCells = false) : ∀ x ∈ L, x.foot ≠ some g := by
  intro x hx hk
  have hh := H.holds x hx
  have hn := hL x hx
  cases x with
  | blk g' t cs =>
    injection hk with hk
    subst hk
    have hh : w.heap[g']? = some _ := hh
    rw [hh] at hg
    injection hg with hg
    subst hg
    cases ho
  | obj g' o' => cases hn
  | own e size A n c xs =>
    rcases hh.2 with ⟨hv, _⟩ | ⟨g', cap, cur, hv, _, hg', _⟩
    · injection hv with h1
      subst h1
      cases hk
    · injection hv with h1
      subst h1
      simp [Item.foot] at hk
      subst hk
      rw [hg'] at hg
      injection hg with hg
      subst hg
      cases ho
theorem Hp.addObj {w0 w : World} {L : List Item} (H : Hp w0 w L) {g : Nat} {o : Obj} (hg : w.heap[g]? = some o) (hb : w0.heap.size ≤ g) (hne : ∀ x ∈ L, x.foot ≠ some g) : Hp w0 w (.obj g o :: L) := by
  refine ⟨H.below, ?_, ?_, ?_⟩
  · intro x hx
    rcases List.mem_cons.1 hx with rfl | hx
    · exact hg
    · exact H.holds x hx
  · intro x hx k hk
    rcases List.mem_cons.1 hx with rfl | hx
    · injection hk with hk
      subst hk
      exact ⟨hb, (Array.getElem?_eq_some_iff.1 hg).1⟩
    · exact H.fresh x hx k hk
  · exact List.pairwise_cons.2 ⟨fun y hy k hk hk2 => by injection hk with hk; subst hk; exact hne y hy hk2, H.apart⟩
/-- two such -/
theorem Hp.addObj2 {w0 w : World} {L : List Item} (H : Hp w0 w L) (hL : ∀ x ∈ L, x.isObj = false) {g h : Nat} {o o' : Obj} (hg : w.heap[g]? = some o) (hh : w.heap[h]? = some o') (ho : o.isCells = false) (ho' : o'.isCells = false) (hb : w0.heap.size ≤ g) (hb' : w0.heap.size ≤ h) (hne : g ≠ h) : Hp w0 w (.obj g o :: .obj h o' :: L) := by
  refine (H.addObj hh hb' (H.footNe hL hh ho')).addObj hg hb ?_
  intro x hx
  rcases List.mem_cons.1 hx with rfl | hx
  · intro e
    injection e with e
    exact hne e.symm
  · exact H.footNe hL hg ho x hx
theorem Hp.ob {w0 w : World} {L : List Item} (H : Hp w0 w L) (i : Nat) {g : Nat} {o : Obj} (hL : L[i]? = some (.obj g o)) : w.heap[g]? = some o := H.holds _ (List.mem_of_getElem? hL)
/-- behind a turn of blocks that are no cells, the small heap stands -/
theorem Hp.ownFrom {β : Type} {w0 : World} {B : Nat} (L : β → List Item) (hL : ∀ s, ∀ x ∈ L s, x.isObj = false) (hB : w0.heap.size ≤ B) : OwnFrom B (fun s W => Hp w0 W (L s)) := by
  intro s W W' row H hg hr
  have hne : ∀ x ∈ L s, ∀ k, x.foot = some k → some k ≠ row := by
    intro x hx k hk e
    obtain ⟨_, o, ho, hc⟩ := hr k e.symm
    exact H.footNe (hL s) ho hc x hx hk
  refine ⟨H.below.grown hg H.size (fun k e => by have := (hr k e).1; omega), ?_, ?_, H.apart⟩
  · intro x hx
    exact Item.keep (H.holds x hx) fun k hk => hg.block k (H.fresh x hx k hk).2 (hne x hx k hk)
  · intro x hx k hk
    have := H.fresh x hx k hk
    have := hg.size
    omega
theorem OwnFrom.ex {β γ : Type} {B : Nat} {I : γ → β → World → Prop} (h : ∀ c, OwnFrom B (I c)) : OwnFrom B (fun s W => ∃ c, I c s W) := fun s W W' row ⟨c, hc⟩ hg hr => ⟨c, h c s W W' row hc hg hr⟩
theorem OwnFrom.and_pure {β : Type} {B : Nat} {I : β → World → Prop} {p : β → Prop} (h : OwnFrom B I) : OwnFrom B (fun s W => p s ∧ I s W) := fun s W W' row ⟨hp, hc⟩ hg hr => ⟨hp, h s W W' row hc hg hr⟩
/-- what a round is left with -/
def roundJ {α : Type} (l D : Nat) (o o' : Obj) (J : Nat → List α → World → Prop) (k : Nat) (xs : List α) : Exit → Act → World → Prop
  | .normal, _, W' => J k xs W' ∧ W'.heap[l]? = some o ∧ W'.heap[D]? = some o'
  | _, _, _ => False
section
variable {F : Fence} {n : Nat} {P : Program} {α : Type}
theorem rangeFunc_law {g : Operand} {ps : Array Tmp} {assign body : Code} {Q : Exit → Act → World → Prop} {a : Act} {w : World} (hro : F.round = none) (h1 : 1 ≤ n) {gf : Nat} {lb : Array Value}
    (hg : a.eval g = .func (.func gf) #[] lb) (hFg : F.fn gf) (eg : ∀ args w, (callFunc gf args).run P w = .ok (.enter gf args) w) {encs : α → Array Value} (hps : ∀ x, (encs x).size = ps.size)
    (J : Nat → List α → World → Prop) (hJ : ∀ k, OwnFrom w.heap.size (J k)) (h0 : J 0 [] w) (S : List α → Prop) (N : Nat) (a₁ : α → Act)
    (hassign : ∀ (l : Nat) (x : α) (W : World) (K : Act → World → Prop), K (a₁ x) W → assign.wpIn (F.inRound l) (n - 1 - 1) P (Exit.then K (fun _ _ _ => False)) { tmps := (ps.zip (encs x)).foldl (fun t (p, v) => t.setIfInBounds p v) a.tmps, defers := [] } W)
    (hbody : ∀ (l D : Nat) (o o' : Obj) (k : Nat) (pre : List α) (x : α) (W : World), w.heap.size ≤ l → w.heap.size ≤ D → l ≠ D → o.isCells = false → o'.isCells = false → pre.length < N → J k pre W → W.heap[l]? = some o → W.heap[D]? = some o' → body.wpIn (F.inRound l) (n - 1 - 1) P (roundJ l D o o' J k (pre ++ [x])) (a₁ x) W)
    (hiter : ∀ (l D : Nat) (o o' : Obj) (W : World), w.heap.size ≤ l → w.heap.size ≤ D → l ≠ D → o.isCells = false → o'.isCells = false → J 0 [] W → W.heap[l]? = some o → W.heap[D]? = some o' →
      (∀ k pre x W1, pre.length < N → J k pre W1 → W1.heap[l]? = some o → W1.heap[D]? = some o' → YieldAt F (n - 1 - 1) P l (encs x) W1 fun e W' => e = .returned (.bool true) ∧ J k (pre ++ [x]) W' ∧ W'.heap[l]? = some o ∧ W'.heap[D]? = some o') →
      CallsIn F (n - 1) P gf (#[.func (.yield l) #[] #[]] ++ lb) W fun e W' => (∃ v, e = .returned v) ∧ (∃ k xs, S xs ∧ J k xs W') ∧ W'.heap[l]? = some o ∧ W'.heap[D]? = some o')
    (hdone : ∀ (D k : Nat) (xs : List α) (W : World), w.heap.size ≤ D → S xs → J k xs W → W.heap[D]? = some (.deferred (some [])) → Q .normal { a with defers := { target := .collected D, args := #[] } :: a.defers } W) :
    (Code.rangeFunc g ps assign body).wpIn F n P Q a w := by
  refine wpIn_rangeFunc fun fn hfn => ?_
  rw [hro]
  obtain ⟨rec, hrec⟩ : ∃ rec : LoopState → Loop, rec = fun st => { state := st, pending := none, fn, tmps := a.tmps, params := ps, assign, body, defers := w.heap.size } := ⟨_, rfl⟩
  obtain ⟨W1, hW1⟩ : ∃ W1, (w.alloc (.deferred (some []))).alloc (.loop (rec .ready)) = W1 := ⟨_, rfl⟩
  have hL1 : W1.heap[w.heap.size + 1]? = some (.loop (rec .ready)) := by
    have := World.alloc_heap_new (w.alloc (.deferred (some []))) (.loop (rec .ready))
    rwa [World.size_alloc, hW1] at this
  have hK1 : W1.heap[w.heap.size]? = some (.deferred (some [])) := by
    rw [← hW1]
    exact (Below.heap_alloc _ _ _ (by simp)).trans (World.alloc_heap_new w _)
  have hI1 : J 0 [] W1 := by
    rw [← hW1]
    exact (hJ 0).alloc _ ((hJ 0).alloc _ h0)
  refine ⟨w.heap.size + 1, [{ target := .collected w.heap.size, args := #[] }], W1, { target := .fn (.func gf) lb, args := #[.func (.yield (w.heap.size + 1)) #[] #[]] }, W1, gf, #[.func (.yield (w.heap.size + 1)) #[] #[]] ++ lb, W1, ?_, ?_, ?_, ?_, fun _ => h1, ?_⟩
  · rw [← hW1, hrec]
    exact run_enterLoop_outer _ _ _ _ _
  · simp only [resolve, hg]
    simp [go_sem]
  · intro f' hf'
    simp [Target.leads] at hf'
    subst hf'
    exact hFg
  · simp [invoke, go_sem, eg]
  refine (hiter (w.heap.size + 1) w.heap.size _ _ W1 (by omega) (Nat.le_refl _) (by omega) rfl rfl hI1 hL1 hK1 ?_).mono ?_
  · rintro k pre x W hlen hi hl hk
    have hy := run_yield (P := P) (args := encs x) hl (by rw [hrec]; exact hps x)
    rw [hrec] at hy
    refine ⟨fn, _, assign, body, hy, roundIn_of_wpIn hfn (hassign _ x W _ ⟨_, run_beginRound hl (by rw [hrec]), ?_⟩)⟩
    have hlt := (Array.getElem?_eq_some_iff.1 hl).1
    have hl2 : (W.putObj (w.heap.size + 1) (.loop { rec .ready with state := .busy })).heap[w.heap.size + 1]? = some (.loop { rec .ready with state := .busy }) := World.putObj_heap_same hlt
    have hk2 : (W.putObj (w.heap.size + 1) (.loop { rec .ready with state := .busy })).heap[w.heap.size]? = some (.deferred (some [])) := (World.putObj_heap_other (by omega)).trans hk
    refine wpIn_mono (hbody _ w.heap.size _ _ k pre x _ (by omega) (Nat.le_refl _) (by omega) rfl rfl hlen ((hJ k).putObj _ hi (by omega) hl rfl) hl2 hk2) ?_
    rintro e a3 W3 hp
    cases e with
    | normal =>
      obtain ⟨hi3, hl3, hk3⟩ := hp
      have hr := run_endRound (P := P) none hl3
      rw [hrec] at hr
      refine ⟨_, _, hr, rfl, ?_, ?_, ?_⟩
      · exact (hJ k).putObj _ hi3 (by omega) hl3 rfl
      · have := World.putObj_heap_same (o := .loop (rec .ready)) (Array.getElem?_eq_some_iff.1 hl3).1
        rw [hrec] at this ⊢
        exact this
      · exact (World.putObj_heap_other (by omega)).trans hk3
    | ret => exact hp.elim
    | exit id => exact hp.elim
    | goto t => exact hp.elim
    | panic ch => exact hp.elim
    | outgrown => exact hp.elim
  · rintro e W2 ⟨⟨v, rfl⟩, ⟨k, xs, hS, hi⟩, hl, hk⟩
    have := run_endLoop (P := P) hl (by rw [hrec]; simp)
    rw [hrec] at this
    exact ⟨none, _, this, hdone _ k xs _ (Nat.le_refl _) hS ((hJ k).putObj _ hi (by omega) hl rfl) ((World.putObj_heap_other (by omega)).trans hk)⟩
end
end Go.Proofs.Ytanpglhpmfdnmaa
