/-
  A CALL IN A DRAWN REGION, BY HAND.
-/
import Derived.Test.YtanpglhpmfdnmaaHeapE
namespace Go.Proofs.Ytanpglhpmfdnmaa
open Go.RowKit
theorem ex_calln_k {P : Program} {r : Operand → Value} {oi : Oper} {w : World} {x : Operand} {xs : List Operand} {ts : Array TypeId} {k : Nat} {vs : List Value} (ho : oi.op = .call { callee := .value x, args := xs.toArray, argTypes := ts }) (hcf : ∀ args w, (callFunc k args).run P w = .ok (.enter k args) w) (hx : r x = .func (.func k) #[] #[]) (hv : xs.map r = vs) : (execOp r oi).run P w = .ok (.enter k vs.toArray) w := by
  subst hv
  simp [execOp, ho, hx, resolve, invoke, Deferred.ofValue, go_sem, hcf]
theorem hw_callk {P : Program} {a : Act} {w : World} {Q : Exit → Act → World → Prop} {oi : Oper} {K : Act → World → Prop} {x : Operand} {xs : List Operand} {ts : Array TypeId} {k : Nat} {vs : List Value} {post : Ending → World → Prop} (hc : Calls P k vs.toArray w post) (hcf : ∀ args w, (callFunc k args).run P w = .ok (.enter k args) w)
    (ho : oi.op = .call { callee := .value x, args := xs.toArray, argTypes := ts }) (hx : a.eval x = .func (.func k) #[] #[]) (hv : xs.map a.eval = vs) (h : ∀ e w', post e w' → ∃ v, e = .returned v ∧ K (a.put oi.dst v) w') : oi.wp P a w K Q :=
  hw_call (ex_calln_k ho hcf hx hv) hc h
/-- a call that makes bytes of its own -/
theorem hw_callB {P : Program} {a : Act} {w0 w : World} {Q : Exit → Act → World → Prop} {L : List Item} {oi : Oper} {K : Act → World → Prop} {x : Operand} {xs : List Operand} {ts : Array TypeId} {k : Nat} {vs : List Value} {l : List UInt8} (hc : Calls P k vs.toArray w (RetB w l)) (hcf : ∀ args w, (callFunc k args).run P w = .ok (.enter k args) w)
    (ho : oi.op = .call { callee := .value x, args := xs.toArray, argTypes := ts }) (hx : a.eval x = .func (.func k) #[] #[]) (hv : xs.map a.eval = vs) (H : Hp w0 w L)
    (h : ∀ A c w', Hp w0 w' (.bytes A c l :: L) → K (a.put oi.dst (.slice A l.length c)) w') : oi.wp P a w K Q := by
  refine hw_callk hc hcf ho hx hv ?_
  rintro e w' ⟨A, c, he, hown, hb⟩
  exact ⟨_, he, h A c w' (H.callOwn hb hown)⟩
/-- a row stored in the midst of a block -/
theorem hw_str {P : Program} {a : Act} {w0 w : World} {Q : Exit → Act → World → Prop} {L : List Item} {oi : Oper} {K : Act → World → Prop} {ty : TypeId} {x y : Operand} {g off : Nat} {vs : List Value} (ho : oi.op = .store ty x y) (hx : a.eval x = .pointer (some ⟨g, off, none⟩)) (hy : a.eval y = .agg vs.toArray) (H : Hp w0 w L) {n : Nat} (hn : sizeT P ty = some n) {i : Nat} {t : TypeId} {cs : List Value} (hL : Has L i (.blk g t cs)) (hv : vs.length = n) (hl : off + vs.length ≤ cs.length) (h1 : vs.all (·.oneCell') = true)
    (h : ∀ w', Hp w0 w' (L.set i (.blk g t (cs.take off ++ vs ++ cs.drop (off + vs.length)))) → K (a.put oi.dst undef) w') : oi.wp P a w K Q := by
  subst hv
  have h3 := H.setRange i hL.get off vs hl
  have h2 := run_storeAt_mid (P := P) w g off ty vs.toArray (H.there i hL.get off _ (by simp; omega)) (by rw [List.size_toArray]; exact hn) (by simpa using h1)
  have h4 := h _ h3
  unfold Oper.wp
  simp [execOp, ho, hx, hy, h2]
  exact h4
end Go.Proofs.Ytanpglhpmfdnmaa
