/-
  chunk.Split: the pieces; the iterator; the walk.
-/
import Derived.Test.YtanpglhpmfdnmaaRng
import Derived.Test.YtanpglhpmfdnmaaClone
namespace Go.Proofs.Ytanpglhpmfdnmaa
open Go.RowKit
set_option linter.unusedVariables false
set_option linter.unusedSimpArgs false
/-- bytes in memory -/
structure Ch where
  A : Option Addr
  c : Nat
  l : List UInt8
def chC (x : Ch) : List Value := [.slice x.A x.l.length x.c]
def Ch.item (x : Ch) : Item := .bytes x.A x.c x.l
/-- how many pieces; the pieces -/
def nCh (n : Nat) : Nat := if n = 0 then 1 else (n + 79) / 80
def spl (l : List UInt8) : List (List UInt8) := (List.range (nCh l.length)).map fun k => (l.drop (80 * k)).take 80
/-- a slice from a place on -/
def offA : Option Addr → Nat → Option Addr
  | some ⟨b, o, none⟩, k => some ⟨b, o + k, none⟩
  | x, _ => x
theorem offA_0 (A : Option Addr) : offA A 0 = A := by
  match A with
  | none => rfl
  | some ⟨b, o, none⟩ => rfl
  | some ⟨b, o, some s⟩ => rfl
theorem pieces_any (A : Option Addr) (n c : Nat) (w : World) : Calls Try.prog 40 #[.slice A n c] w (fun e w' => ∃ g, e = .returned (.func (.func 43) #[] #[.pointer (some ⟨g, 0, none⟩)]) ∧ Hp w w' [.blk g 22 [.slice A n c]]) := by
  have H := Hp.nil w
  go_enter Try.func40, Try.ntmps40
  go_wp2_with (first | ((with_reducible refine Hp.box H ?_); (first | refine ⟨rfl, [.pointer _], rfl, ?_⟩ | refine ⟨rfl, [.int _ _], rfl, ?_⟩ | refine ⟨rfl, [.slice _ _ _], rfl, ?_⟩ | refine ⟨rfl, [.bool _], rfl, ?_⟩ | refine ⟨rfl, [.string _], rfl, ?_⟩ | refine ⟨rfl, _, rfl, ?_⟩); (clear H; intro g1 w1 H); go_frame) | ((with_reducible refine Hp.allo H ?_); refine ⟨rfl, ?_⟩; refine ⟨_, z_look rfl, ?_⟩; (clear H; intro g1 w1 H); go_frame) | ((with_reducible refine Hp.ld H ?_); refine ⟨rfl, ?_⟩; refine ⟨c_look rfl, ?_⟩; refine ⟨_, _, rfl, ?_⟩; ((repeat ((fail_if_success refine ⟨_, _, _, .z, ?_⟩); refine hs ?_)); refine ⟨_, _, _, .z, ?_⟩); refine ⟨_, rfl, ?_⟩; go_frame) | ((with_reducible refine Hp.lda H ?_); refine ⟨rfl, by kernel_rfl, ?_⟩; refine ⟨_, s_look rfl, ?_⟩; refine ⟨_, rfl, ?_⟩; ((repeat ((fail_if_success refine ⟨_, _, _, .z, ?_⟩); refine hs ?_)); refine ⟨_, _, _, .z, ?_⟩); refine ⟨rfl, ?_⟩; go_frame) | ((with_reducible refine Hp.lds H ?_); refine ⟨rfl, by kernel_rfl, ?_⟩; refine ⟨_, s_look rfl, ?_⟩; refine ⟨_, _, rfl, ?_⟩; ((repeat ((fail_if_success refine ⟨_, _, _, .z, ?_⟩); refine hs ?_)); refine ⟨_, _, _, .z, ?_⟩); (first | refine ⟨[_, _], rfl, rfl, ?_⟩ | refine ⟨[_, _, _, _], rfl, rfl, ?_⟩ | refine ⟨[_, _, _, _, _, _, _], rfl, rfl, ?_⟩ | refine ⟨[_, _, _], rfl, rfl, ?_⟩ | (fail)); go_frame) | ((with_reducible refine Hp.sto H ?_); refine ⟨rfl, ?_⟩; refine ⟨c_look rfl, ?_⟩; refine ⟨_, _, rfl, ?_⟩; ((repeat ((fail_if_success refine ⟨_, _, _, .z, ?_⟩); refine hs ?_)); refine ⟨_, _, _, .z, ?_⟩); refine ⟨⟨_, rfl⟩, rfl, ?_⟩; (clear H; intro w1 H; simp only [List.set] at H); go_frame) | ((with_reducible refine Hp.sta H ?_); refine ⟨rfl, ?_⟩; refine ⟨_, s_look rfl, ?_⟩; refine ⟨_, rfl, _, rfl, rfl, ?_⟩; ((repeat ((fail_if_success refine ⟨_, _, _, .z, ?_⟩); refine hs ?_)); refine ⟨_, _, _, .z, ?_⟩); refine ⟨rfl, rfl, ?_⟩; (clear H; intro w1 H; simp only [List.set] at H); go_frame) | ((with_reducible refine Hp.str H ?_); refine ⟨rfl, ?_⟩; refine ⟨_, s_look rfl, ?_⟩; refine ⟨_, _, rfl, _, rfl, rfl, ?_⟩; ((repeat ((fail_if_success refine ⟨_, _, _, .z, ?_⟩); refine hs ?_)); refine ⟨_, _, _, .z, ?_⟩); refine ⟨rfl, _, rfl, _, rfl, Nat.le_of_ble_eq_true rfl, ?_⟩; (clear H; intro w1 H; simp only [List.set] at H); go_frame) | ((with_reducible refine Hp.bdl H ?_); (fail); go_frame) | (fail))
  go_ret
  exact ⟨_, rfl, H⟩
abbrev Pc (w : World) := { x : Ch // Rd w x.A x.l ∧ x.l.length ≤ 1000 }
def encP {w : World} (x : Pc w) : Array Value := #[.slice x.1.A x.1.l.length x.1.c]
def JI (gO gB : Nat) (A : Option Addr) (n c k : Nat) (q : Option Addr × Nat × List Ch) : List Item := .rows 22 1 chC q.1 q.2.1 q.2.2 :: .blk gO 61 [.slice q.1 q.2.2.length q.2.1] :: .blk gB 22 [.slice (offA A (80 * k)) (n - 80 * k) (c - 80 * k)] :: q.2.2.map Ch.item
theorem JI_no (gO gB : Nat) (A : Option Addr) (n c k : Nat) (q : Option Addr × Nat × List Ch) : ∀ x ∈ JI gO gB A n c k q, x.isObj = false := by
  intro x hx
  unfold JI at hx
  rcases List.mem_cons.1 hx with rfl | hx
  · rfl
  rcases List.mem_cons.1 hx with rfl | hx
  · rfl
  rcases List.mem_cons.1 hx with rfl | hx
  · rfl
  obtain ⟨y, _, rfl⟩ := List.mem_map.1 hx
  rfl
def JS (w : World) (gO gB : Nat) (A : Option Addr) (n c : Nat) (k : Nat) (pre : List (Pc w)) (W : World) : Prop := ∃ q : Option Addr × Nat × List Ch, q.2.2.map (·.l) = pre.map (·.1.l) ∧ Hp w W (JI gO gB A n c k q)
theorem JS_own (w : World) (gO gB : Nat) (A : Option Addr) (n c k : Nat) {B : Nat} (hB : w.heap.size ≤ B) : OwnFrom B (JS w gO gB A n c k) :=
  OwnFrom.ex fun q => OwnFrom.and_pure (Hp.ownFrom (fun _ => JI gO gB A n c k q) (fun _ => JI_no gO gB A n c k q) hB)
def lenB (gB : Nat) (wr : World) : Nat := match wr.cell? ⟨gB, 0, none⟩ with | some (.slice _ n _) => n | _ => 0
theorem nCh_end {n k : Nat} (h1 : 80 * k ≤ n) (h2 : n - 80 * k ≤ 80) (h3 : k = 0 ∨ 80 * k < n) : nCh n = k + 1 := by
  unfold nCh
  split <;> omega
set_option maxRecDepth 100000 in
set_option maxHeartbeats 4000000 in
theorem pieces1_in (m : Nat) (w : World) (A : Option Addr) (c : Nat) (l : List UInt8) (hr : Rd w A l) (hc : l.length ≤ c) (hm : c ≤ maxLen) (h640 : l.length ≤ 640) (gO gB ll D : Nat) (o o' : Obj) (W : World) (hb1 : w.heap.size ≤ ll) (hb2 : w.heap.size ≤ D) (hne : ll ≠ D) (ho : o.isCells = false) (ho' : o'.isCells = false)
    (h0 : JS w gO gB A l.length c 0 [] W) (hl : W.heap[ll]? = some o) (hD : W.heap[D]? = some o')
    (hY : ∀ k (pre : List (Pc w)) (x : Pc w) W1, pre.length < 1000 → JS w gO gB A l.length c k pre W1 → W1.heap[ll]? = some o → W1.heap[D]? = some o' → YieldAt Fence.wide (m - 1) Try.prog ll (encP x) W1 fun e W' => e = .returned (.bool true) ∧ JS w gO gB A l.length c k (pre ++ [x]) W' ∧ W'.heap[ll]? = some o ∧ W'.heap[D]? = some o') :
    CallsIn Fence.wide m Try.prog 43 (#[.func (.yield ll) #[] #[]] ++ #[.pointer (some ⟨gB, 0, none⟩)]) W fun e W' => (∃ v, e = .returned v) ∧ (∃ k xs, xs.map (fun x : Pc w => x.1.l) = spl l ∧ JS w gO gB A l.length c k xs W') ∧ W'.heap[ll]? = some o ∧ W'.heap[D]? = some o' := by
  unfold maxLen at hm
  refine callsIn_of_wp Try.func43 rfl trivial ?_ rfl
  simp only [Try.ntmps43, List.size_toArray, List.length_cons, List.length_nil, Nat.reduceAdd, Nat.reduceSub, Array.replicate_succ, Array.replicate_zero, List.push_toArray, List.append_toArray, List.nil_append, List.cons_append]
  gi_wp2
  gi_loopw [] (fun wr => ∃ (k : Nat) (pre : List (Pc w)), 80 * k ≤ l.length ∧ (k = 0 ∨ 80 * k < l.length) ∧ pre.map (fun x : Pc w => x.1.l) = (List.range k).map (fun i => (l.drop (80 * i)).take 80) ∧ JS w gO gB A l.length c k pre wr ∧ wr.heap[ll]? = some o ∧ wr.heap[D]? = some o') (fun wr => lenB gB wr)
  case atStart => exact ⟨0, [], by omega, .inl rfl, rfl, h0, hl, hD⟩
  case round =>
    obtain ⟨k, pre, hk, hk0, hpre, hJ, hl1, hD1⟩ := hrel
    have hplen : pre.length < 1000 := by
      have := congrArg List.length hpre
      simp only [List.length_map, List.length_range] at this
      omega
    have hJ2 := hJ
    obtain ⟨q, hq, H⟩ := hJ2
    have hcell := H.c 2 rfl 0 rfl
    have hlb : lenB gB wr = l.length - 80 * k := by unfold lenB; rw [hcell]
    by_cases hgt : 80 < l.length - 80 * k
    · obtain ⟨b, oo, rfl, _⟩ := hr (fun e => by subst e; simp at hgt)
      have hx80 : ((l.drop (80 * k)).take 80).length = 80 := by simp; omega
      obtain ⟨fn, tmps, assign, body, hy, hR⟩ := hY k pre ⟨⟨offA (some ⟨b, oo, none⟩) (80 * k), c - 80 * k, (l.drop (80 * k)).take 80⟩, hr.cut b oo (80 * k) 80 rfl (by omega), by rw [hx80]; omega⟩ wr hplen hJ hl1 hD1
      simp only [encP, offA, hx80] at hy
      simp only [offA] at hcell
      gi_wp2
      refine ⟨fun h => by simp [Fence.wide] at h, hR.mono ?_⟩
      rintro e W' ⟨rfl, ⟨q', hq', H'⟩, hl', hD'⟩
      have hc' := H'.c 2 rfl 0 rfl
      have hf' : W'.frozen? ⟨gB, 0, none⟩ = false := (H'.b 2 rfl).frozen 0
      simp only [offA] at hc'
      have hcl : 80 < c - 80 * k := by omega
      gi_wp2
      have HH := H'.addObj2 (JI_no gO gB _ _ _ k q') hl' hD' ho ho' hb1 hb2 hne
      have HS := HH.setBlk 4 rfl 0 (.slice (offA (some ⟨b, oo, none⟩) (80 * (k + 1))) (l.length - 80 * (k + 1)) (c - 80 * (k + 1)))
      have e1 : (Value.slice (some ⟨b, oo + 80 * k + 80, none⟩) (l.length - 80 * k - 80) (c - 80 * k - 80)) = .slice (offA (some ⟨b, oo, none⟩) (80 * (k + 1))) (l.length - 80 * (k + 1)) (c - 80 * (k + 1)) := by
        simp only [offA]
        rw [show oo + 80 * k + 80 = oo + 80 * (k + 1) by omega, show l.length - 80 * k - 80 = l.length - 80 * (k + 1) by omega, show c - 80 * k - 80 = c - 80 * (k + 1) by omega]
      rw [e1]
      go_roundw
      case rel =>
        refine ⟨k + 1, _, by omega, .inr (by omega), ?_, ⟨q', hq', HS.tail.tail⟩, HS.ob 0 rfl, HS.ob 1 rfl⟩
        rw [List.map_append, hpre, List.range_succ, List.map_append]
        rfl
      case measure =>
        have : lenB gB (W'.setCell ⟨gB, 0, none⟩ (.slice (offA (some ⟨b, oo, none⟩) (80 * (k + 1))) (l.length - 80 * (k + 1)) (c - 80 * (k + 1)))) = l.length - 80 * (k + 1) := by
          unfold lenB
          rw [HS.c 4 rfl 0 rfl]
        rw [this, hlb]
        omega
    · have hlen : (l.drop (80 * k)).length = l.length - 80 * k := List.length_drop
      have hrd : Rd w (offA A (80 * k)) (l.drop (80 * k)) := by
        rcases hk0 with rfl | hk0
        · rw [Nat.mul_zero, offA_0]; exact hr
        · obtain ⟨b, oo, rfl, _⟩ := hr (fun e => by subst e; simp at hk0)
          have := hr.cut b oo (80 * k) (l.length - 80 * k) rfl (by omega)
          rwa [List.take_of_length_le (by omega)] at this
      obtain ⟨fn, tmps, assign, body, hy, hR⟩ := hY k pre ⟨⟨offA A (80 * k), c - 80 * k, l.drop (80 * k)⟩, hrd, by show (l.drop (80 * k)).length ≤ 1000; omega⟩ wr hplen hJ hl1 hD1
      simp only [encP, hlen] at hy
      gi_wp2
      refine ⟨fun h => by simp [Fence.wide] at h, hR.mono ?_⟩
      rintro e W' ⟨rfl, hJ', hl', hD'⟩
      gi_wp2
      go_end0
      refine ⟨⟨_, rfl⟩, ⟨k, _, ?_, hJ'⟩, hl', hD'⟩
      unfold spl
      rw [nCh_end hk (by omega) hk0, List.map_append, hpre, List.range_succ, List.map_append]
      congr 1
      show [l.drop (80 * k)] = [(l.drop (80 * k)).take 80]
      rw [List.take_of_length_le (by omega)]
end Go.Proofs.Ytanpglhpmfdnmaa
