/-
  MAPS KEYED BY int: what a map's operations do to its object.
-/
import Derived.Test.YtanpglhpmfdnmaaHeapM
import Derived.RangeFuncRecord
namespace Go.Proofs.Ytanpglhpmfdnmaa
open Go.RowKit
set_option linter.unusedVariables false
set_option linter.unusedSimpArgs false
abbrev En3 := Int × Value × Nat
def mE (x : En3) : MapEntry := { key := .int .i64 x.1, val := x.2.1, born := x.2.2 }
/-- the place and the value of a key -/
def lookI (k : Int) : List En3 → Nat → Option (Nat × Value)
  | [], _ => none
  | x :: ms, i => if k = x.1 then some (i, x.2.1) else lookI k ms (i + 1)
theorem findNow_I (k : Int) : ∀ (ms : List En3) (i : Nat), Instr.findNow (.int .i64) (.int .i64 k) (ms.map mE) i = some (lookI k ms i)
  | [], _ => rfl
  | x :: ms, i => by
    have hs : Instr.sameNow (.int .i64) (.int .i64 k) (mE x).key = some (k == x.1) := by simp [mE, Instr.sameNow]
    rw [List.map_cons, Instr.findNow, lookI, hs]
    by_cases h : k = x.1
    · rw [if_pos h, beq_iff_eq.2 h]
      rfl
    · rw [if_neg h, beq_eq_false_iff_ne.2 h]
      exact findNow_I k ms (i + 1)
/-- an object in an object's place -/
def mset (w : World) (r : Nat) (o : Obj) : World := { w with heap := w.heap.setIfInBounds r o }
section
variable {P : Program} {kt e T : TypeId}
theorem run_findKeyI (hk : P.underlying kt = some (.int .i64)) (k : Int) (ms : List En3) (w : World) : (Instr.findKey kt (.int .i64 k) (ms.map mE)).run P w = .ok (lookI k ms 0) w := by
  simp [Instr.findKey, run_underlying hk, findNow_I]
theorem run_checkKeyI (hk : P.underlying kt = some (.int .i64)) (b : Bool) (n : Nat) (k : Int) (w : World) : (Instr.checkKey b (n + 1) kt (.int .i64 k)).run P w = .ok () w := by
  simp [Instr.checkKey, run_underlying hk]
theorem run_getO {r : Nat} {es : Array MapEntry} {cl : Nat} {w : World} (h : w.heap[r]? = some (.map es cl)) : (getObj r).run P w = .ok (.map es cl) w := by
  simp [getObj, Sem.run, h]
theorem run_setO {r : Nat} {es : Array MapEntry} {cl : Nat} {o' : Obj} {w : World} (h : w.heap[r]? = some (.map es cl)) : (setObj r o').run P w = .ok () (mset w r o') := by
  simp [setObj, Sem.run, h, mset]
/-- what a look-up tells -/
def lookV (z : Value) (k : Int) (ms : List En3) : Value := match lookI k ms 0 with | some (_, v) => v | none => z
def lookB (k : Int) (ms : List En3) : Bool := (lookI k ms 0).isSome
theorem run_lookI (hT : P.underlying T = some (.map kt e)) (hk : P.underlying kt = some (.int .i64)) {i : TypeInfo} {z : Value} (hi : P.info? e = some i) (hz : i.zero = some z) {r : Nat} {ms : List En3} {cl : Nat} {w : World} (h : w.heap[r]? = some (.map (ms.map mE).toArray cl)) (k : Int) (ok : Bool) :
    (Instr.lookup T (.map (some r)) (.int .i64 k) ok).run P w = .ok (if ok then .tuple #[lookV z k ms, .bool (lookB k ms)] else lookV z k ms) w := by
  unfold Instr.lookup
  simp only [Sem.run_bind, run_underlying hT, Result.andThen_ok, run_getO h, Sem.run_pure, run_checkKeyI hk, run_findKeyI hk]
  unfold lookV lookB
  cases hl : lookI k ms 0 with
  | none => cases ok <;> simp [zeroValue, typeInfo, hi, hz]
  | some x => obtain ⟨j, v⟩ := x; cases ok <;> simp
/-- a key, its value: in its old place, or behind -/
def putI (k : Int) (v : Value) (cl : Nat) (ms : List En3) : List En3 := match lookI k ms 0 with | some (i, _) => ms.modify i (fun x => (k, v, x.2.2)) | none => ms ++ [(k, v, cl)]
def putC (k : Int) (cl : Nat) (ms : List En3) : Nat := match lookI k ms 0 with | some _ => cl | none => cl + 1
def delI (k : Int) (ms : List En3) : List En3 := match lookI k ms 0 with | some (i, _) => ms.eraseIdx i | none => ms
theorem lookI_key (k : Int) : ∀ (ms : List En3) (i j : Nat) (v : Value), lookI k ms i = some (j, v) → i ≤ j ∧ j - i < ms.length ∧ ∃ b, ms[j - i]? = some (k, v, b)
  | [], _, _, _, h => by cases h
  | x :: ms, i, j, v, h => by
    rw [lookI] at h
    by_cases hk : k = x.1
    · rw [if_pos hk] at h
      injection h with h
      injection h with h1 h2
      subst h1 h2 hk
      exact ⟨Nat.le_refl _, by simp, x.2.2, by simp⟩
    · rw [if_neg hk] at h
      obtain ⟨h1, h2, b, h3⟩ := lookI_key k ms (i + 1) j v h
      refine ⟨by omega, by simp; omega, b, ?_⟩
      rw [show j - i = (j - (i + 1)) + 1 by omega, List.getElem?_cons_succ]
      exact h3
theorem run_putI (hT : P.underlying T = some (.map kt e)) (hk : P.underlying kt = some (.int .i64)) {r : Nat} {ms : List En3} {cl : Nat} {w : World} (h : w.heap[r]? = some (.map (ms.map mE).toArray cl)) (k : Int) (v : Value) :
    (Instr.mapUpdate T (.map (some r)) (.int .i64 k) v).run P w = .ok () (mset w r (.map ((putI k v cl ms).map mE).toArray (putC k cl ms))) := by
  unfold Instr.mapUpdate
  simp only [Sem.run_bind, run_underlying hT, Result.andThen_ok, run_getO h, Sem.run_pure, run_checkKeyI hk, run_findKeyI hk]
  unfold putI putC
  cases hl : lookI k ms 0 with
  | none =>
    simp only [run_setO h]
    simp [mE]
  | some x =>
    obtain ⟨j, v'⟩ := x
    obtain ⟨_, hj, b, hb⟩ := lookI_key k ms 0 j v' hl
    rw [Nat.sub_zero] at hb hj
    have hkey : (((ms.map mE).toArray[j]?).map (·.key)).getD (.int .i64 k) = .int .i64 k := by simp [hb, mE]
    have hs : Instr.keyThatStays (.int .i64 k) (.int .i64 k) = pure (.int .i64 k) := by
      unfold Instr.keyThatStays
      rw [if_pos (by simp [Instr.sameBits])]
    have hm : (ms.map mE).modify j (fun e => { e with key := .int .i64 k, val := v }) = (ms.modify j (fun x => (k, v, x.2.2))).map mE := by
      apply List.ext_getElem?
      intro q
      simp only [List.getElem?_modify, List.getElem?_map]
      by_cases e : j = q
      · subst e; simp [hb, mE]
      · simp [e]
    simp only [hkey, hs, Sem.run_pure, Sem.run_bind, Result.andThen_ok, run_setO h, List.modify_toArray, hm]
theorem mapErase {α β : Type} (f : α → β) : ∀ (l : List α) (j : Nat), (l.eraseIdx j).map f = (l.map f).eraseIdx j
  | [], _ => by simp
  | x :: l, 0 => by simp
  | x :: l, j + 1 => by simp [mapErase f l j]
theorem run_delI (hT : P.underlying T = some (.map kt e)) (hk : P.underlying kt = some (.int .i64)) {r : Nat} {ms : List En3} {cl : Nat} {w : World} (h : w.heap[r]? = some (.map (ms.map mE).toArray cl)) (k : Int) (t2 ty : TypeId) :
    (Builtin.delete_ #[T, t2] ty #[.map (some r), .int .i64 k]).run P w = .ok (.tuple #[]) (mset w r (.map ((delI k ms).map mE).toArray cl)) := by
  unfold Builtin.delete_ delI
  simp only [List.getElem?_toArray, List.getElem?_cons_zero, List.getElem?_cons_succ, Sem.run_bind, run_underlying hT, Result.andThen_ok, run_getO h, Sem.run_pure, run_checkKeyI hk, run_findKeyI hk]
  cases hl : lookI k ms 0 with
  | none => simp only [Sem.run_bind, Sem.run_pure, run_setO h, Result.andThen_ok]
  | some x =>
    obtain ⟨j, v'⟩ := x
    obtain ⟨_, hj, b, hb⟩ := lookI_key k ms 0 j v' hl
    rw [Nat.sub_zero] at hj
    simp only [Sem.run_bind, Sem.run_pure, run_setO h, Result.andThen_ok]
    rw [mapErase]
    simp [Array.eraseIdxIfInBounds, hj]
theorem run_lenI (hT : P.underlying T = some (.map kt e)) {r : Nat} {es : Array MapEntry} {cl : Nat} {w : World} (h : w.heap[r]? = some (.map es cl)) (ty : TypeId) : (Builtin.len_ #[T] ty #[.map (some r)]).run P w = .ok (.int .i64 es.size) w := by
  simp [Builtin.len_, run_underlying hT, run_getO h, goInt]
theorem run_makeI {T : TypeId} (w : World) : (Instr.makeMap T none).run P w = .ok (.map (some w.heap.size)) (w.alloc (.map #[] 0)) := by
  simp [Instr.makeMap]
end
theorem Hp.setObj {w0 w : World} {L : List Item} (H : Hp w0 w L) (i : Nat) {r : Nat} {o : Obj} (hL : L[i]? = some (.obj r o)) (o' : Obj) : Hp w0 (mset w r o') (L.set i (.obj r o')) := by
  have hi : i < L.length := (List.getElem?_eq_some_iff.1 hL).1
  have H1 := H.front i hL
  have hfr := H1.fresh _ List.mem_cons_self r rfl
  have hoth : ∀ k, k ≠ r → (mset w r o').heap[k]? = w.heap[k]? := fun k hk => by simp [mset, Array.getElem?_setIfInBounds, Ne.symm hk]
  have hsame : (mset w r o').heap[r]? = some o' := by simp [mset, hfr.2]
  refine Hp.back i hi (H1.upd ⟨H.below.os, H.below.tape, H.below.output, by simpa [mset] using H.below.size, fun k hk => ?_⟩ (by simp [mset]) ?_ hsame ?_)
  · rw [hoth k (by omega)]; exact H.below.block k hk
  · intro k hk hne
    exact hoth k (fun e => hne (by simp [Item.foot, e]))
  · intro k hk
    simp [Item.foot] at hk
    subst hk
    exact ⟨.inl rfl, hfr.1, by simpa [mset] using hfr.2⟩
theorem Hp.newObj {w0 w : World} {L : List Item} (H : Hp w0 w L) (o : Obj) : Hp w0 (w.alloc o) (.obj w.heap.size o :: L) :=
  H.new (H.below.alloc H.size _) (by simp) (fun k hk => Below.heap_alloc w _ k hk) (World.alloc_heap_new w o) (fun k hk => by simp [Item.foot] at hk; subst hk; simp)
end Go.Proofs.Ytanpglhpmfdnmaa
