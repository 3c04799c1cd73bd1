/-
  sextonref12.Heap: what it holds; the walks of what reads it.
-/
import Derived.Test.YtanpglhpmfdnmaaChkQ
import Derived.Test.YtanpglhpmfdnmaaSplS
namespace Go.Proofs.Ytanpglhpmfdnmaa
open Go.RowKit
set_option linter.unusedVariables false
set_option linter.unusedSimpArgs false
/-- the reference's heap in memory, as it is read -/
structure RM (w : World) (gr gt gl : Nat) (s : Hs) : Prop where
  c0 : w.cell? ⟨gr, 0, none⟩ = some (.slice (some ⟨gt, 0, none⟩) s.n s.n)
  c1 : w.cell? ⟨gr, 1, none⟩ = some (.slice (some ⟨gl, 0, none⟩) s.n s.n)
  ct : ∀ j : Nat, j < s.n → w.cell? ⟨gt, j, none⟩ = some (.bool (s.get (j : Int)).isSome)
  cl : ∀ j : Nat, j < s.n → ∃ A c, w.cell? ⟨gl, j, none⟩ = some (.slice A (s.getL (j : Int)).length c) ∧ Rd w A (s.getL (j : Int))
theorem cell_below {w w' : World} (hb : Below w.heap.size w w') {p : Addr} {v : Value} (h : w.cell? p = some v) : w'.cell? p = some v := (hb.cell (World.block_lt_of_cell? _ _ h)).trans h
theorem RM.below {w w' : World} {gr gt gl : Nat} {s : Hs} (h : RM w gr gt gl s) (hb : Below w.heap.size w w') : RM w' gr gt gl s :=
  ⟨cell_below hb h.c0, cell_below hb h.c1, fun j hj => cell_below hb (h.ct j hj), fun j hj => by
    obtain ⟨A, c, h1, h2⟩ := h.cl j hj
    exact ⟨A, c, cell_below hb h1, h2.below hb⟩⟩
def slv (x : Ch) : Value := .slice x.A x.l.length x.c
abbrev rgI (gr gt gl n : Nat) : Item := .blk gr 77 [.slice (some ⟨gt, 0, none⟩) n n, .slice (some ⟨gl, 0, none⟩) n n]
abbrev rtI (gt : Nat) (s : Hs) : Item := .blk gt 4 (pbO s)
abbrev rlI (gl : Nat) (chs : List Ch) : Item := .blk gl 22 (chs.map slv)
theorem rm_of {w0 w : World} {gr gt gl i j k : Nat} {s : Hs} {chs : List Ch} {L : List Item} (H : Hp w0 w L) (h1 : L[i]? = some (rgI gr gt gl s.n)) (h2 : L[j]? = some (rtI gt s)) (h3 : L[k]? = some (rlI gl chs)) (hn : chs.length = s.n) (hc : ∀ j (h : j < chs.length), chs[j].l = s.getL (j : Int)) (hm : ∀ x ∈ chs, x.item ∈ L) : RM w gr gt gl s := by
  refine ⟨H.c i h1 0 rfl, H.c i h1 1 rfl, fun q hq => H.c j h2 q (pbO_get hq), fun q hq => ?_⟩
  have hq' : q < chs.length := by omega
  have h4 := H.c k h3 q (v := slv chs[q]) (by rw [List.getElem?_map, List.getElem?_eq_getElem hq']; rfl)
  refine ⟨chs[q].A, chs[q].c, ?_, ?_⟩
  · rw [h4, ← hc q hq']; rfl
  · rw [← hc q hq']
    exact H.rdM (hm _ (List.getElem_mem hq'))
set_option maxHeartbeats 1000000 in
theorem rmiss_any (gr gt gl : Nat) (s : Hs) (w : World) (hM : RM w gr gt gl s) (hn8 : s.n ≤ 1000) : Calls Try.prog 28 #[.pointer (some ⟨gr, 0, none⟩)] w (RetInts w (s.miss s.n)) := by
  have H := (Hp.nil w).nilRow 3 1
  have hc0 := hM.c0
  have hc1 := hM.c1
  have hml := True.intro
  go_enter Try.func28, Try.ntmps28
  go_wp2_with (first | ((with_reducible refine Hp.box H ?_); (first | refine ⟨rfl, [.pointer _], rfl, ?_⟩ | refine ⟨rfl, [.int _ _], rfl, ?_⟩ | refine ⟨rfl, [.slice _ _ _], rfl, ?_⟩ | refine ⟨rfl, [.bool _], rfl, ?_⟩ | refine ⟨rfl, [.string _], rfl, ?_⟩ | refine ⟨rfl, _, rfl, ?_⟩); (clear H; intro g1 w1 H); go_frame) | ((with_reducible refine Hp.allo H ?_); refine ⟨rfl, ?_⟩; refine ⟨_, z_look rfl, ?_⟩; (clear H; intro g1 w1 H); go_frame) | ((with_reducible refine Hp.ld H ?_); refine ⟨rfl, ?_⟩; refine ⟨c_look rfl, ?_⟩; refine ⟨_, _, rfl, ?_⟩; ((repeat ((fail_if_success refine ⟨_, _, _, .z, ?_⟩); refine hs ?_)); refine ⟨_, _, _, .z, ?_⟩); refine ⟨_, rfl, ?_⟩; go_frame) | ((with_reducible refine Hp.lda H ?_); refine ⟨rfl, by kernel_rfl, ?_⟩; refine ⟨_, s_look rfl, ?_⟩; refine ⟨_, rfl, ?_⟩; ((repeat ((fail_if_success refine ⟨_, _, _, .z, ?_⟩); refine hs ?_)); refine ⟨_, _, _, .z, ?_⟩); refine ⟨rfl, ?_⟩; go_frame) | ((with_reducible refine Hp.lds H ?_); refine ⟨rfl, by kernel_rfl, ?_⟩; refine ⟨_, s_look rfl, ?_⟩; refine ⟨_, _, rfl, ?_⟩; ((repeat ((fail_if_success refine ⟨_, _, _, .z, ?_⟩); refine hs ?_)); refine ⟨_, _, _, .z, ?_⟩); (first | refine ⟨[_, _], rfl, rfl, ?_⟩ | refine ⟨[_, _, _, _], rfl, rfl, ?_⟩ | refine ⟨[_, _, _, _, _, _, _], rfl, rfl, ?_⟩ | refine ⟨[_, _, _], rfl, rfl, ?_⟩ | (fail)); go_frame) | ((with_reducible refine Hp.sto H ?_); refine ⟨rfl, ?_⟩; refine ⟨c_look rfl, ?_⟩; refine ⟨_, _, rfl, ?_⟩; ((repeat ((fail_if_success refine ⟨_, _, _, .z, ?_⟩); refine hs ?_)); refine ⟨_, _, _, .z, ?_⟩); refine ⟨⟨_, rfl⟩, rfl, ?_⟩; (clear H; intro w1 H; simp only [List.set] at H); go_frame) | ((with_reducible refine Hp.sta H ?_); refine ⟨rfl, ?_⟩; refine ⟨_, s_look rfl, ?_⟩; refine ⟨_, rfl, _, rfl, rfl, ?_⟩; ((repeat ((fail_if_success refine ⟨_, _, _, .z, ?_⟩); refine hs ?_)); refine ⟨_, _, _, .z, ?_⟩); refine ⟨rfl, rfl, ?_⟩; (clear H; intro w1 H; simp only [List.set] at H); go_frame) | ((with_reducible refine Hp.str H ?_); refine ⟨rfl, ?_⟩; refine ⟨_, s_look rfl, ?_⟩; refine ⟨_, _, rfl, _, rfl, rfl, ?_⟩; ((repeat ((fail_if_success refine ⟨_, _, _, .z, ?_⟩); refine hs ?_)); refine ⟨_, _, _, .z, ?_⟩); refine ⟨rfl, _, rfl, _, rfl, Nat.le_of_ble_eq_true rfl, ?_⟩; (clear H; intro w1 H; simp only [List.set] at H); go_frame) | ((with_reducible refine Hp.bdl H ?_); (fail); go_frame) | ((with_reducible refine Hp.ldo H ?_); refine ⟨rfl, by kernel_rfl, ?_⟩; refine ⟨_, rfl, ?_⟩; refine ⟨_, ‹_›, ?_⟩; go_frame) | ((with_reducible refine Hp.bslc H int_sl int_i1 ?_); refine ⟨rfl, _, rfl, rfl, ?_⟩; (clear H; intro g1 w1 H); go_frame) | (at_builtin; (with_reducible refine Hp.wlAppRow H int_sl int_info rfl rfl rfl ?_); refine ⟨1, _, _, _, _, rfl, rfl, 0, _, _, _, riC _, rfl, rfl, rfl, ri_one _, hml, ?_⟩; (clear H; intro A1 c1 w1 H); simp only [List.set_cons_succ, List.set_cons_zero] at H; replace H := H.tail))
  go_loopw [3, 4] (fun v i wr => ∃ (k : Nat) (A : Option Addr) (c : Nat), k ≤ s.n ∧ i = .int .i64 k ∧ v = .slice A (s.miss k).length c ∧ Hp w wr [.rows 3 1 riC A c (s.miss k)]) (fun _ i _ => s.n - (intOf i).toNat)
  case atStart => exact ⟨0, none, 0, Nat.zero_le _, rfl, rfl, H⟩
  case round =>
    clear H
    obtain ⟨k, A, c, hk, rfl, rfl, H⟩ := hrel
    by_cases hlt : k < s.n
    · have hct := hM.ct k hlt
      have hms := miss_succ s k
      have hml0 := miss_le s k
      have hml : (s.miss k).length ≤ 1000000 := by omega
      clear hml0
      have HMS := Lib.hid hms
      clear hms
      obtain ⟨l, hl⟩ : ∃ l, s.miss k = l := ⟨_, rfl⟩
      have HL := Lib.hid hl
      rw [hl] at H hml ⊢
      clear hl
      cases hg : s.get (k : Int) with
      | some x =>
        rw [hg] at hct
        have HG := Lib.hid hg
        clear hg
        go_wp2_with (first | ((with_reducible refine Hp.box H ?_); (first | refine ⟨rfl, [.pointer _], rfl, ?_⟩ | refine ⟨rfl, [.int _ _], rfl, ?_⟩ | refine ⟨rfl, [.slice _ _ _], rfl, ?_⟩ | refine ⟨rfl, [.bool _], rfl, ?_⟩ | refine ⟨rfl, [.string _], rfl, ?_⟩ | refine ⟨rfl, _, rfl, ?_⟩); (clear H; intro g1 w1 H); go_frame) | ((with_reducible refine Hp.allo H ?_); refine ⟨rfl, ?_⟩; refine ⟨_, z_look rfl, ?_⟩; (clear H; intro g1 w1 H); go_frame) | ((with_reducible refine Hp.ld H ?_); refine ⟨rfl, ?_⟩; refine ⟨c_look rfl, ?_⟩; refine ⟨_, _, rfl, ?_⟩; ((repeat ((fail_if_success refine ⟨_, _, _, .z, ?_⟩); refine hs ?_)); refine ⟨_, _, _, .z, ?_⟩); refine ⟨_, rfl, ?_⟩; go_frame) | ((with_reducible refine Hp.lda H ?_); refine ⟨rfl, by kernel_rfl, ?_⟩; refine ⟨_, s_look rfl, ?_⟩; refine ⟨_, rfl, ?_⟩; ((repeat ((fail_if_success refine ⟨_, _, _, .z, ?_⟩); refine hs ?_)); refine ⟨_, _, _, .z, ?_⟩); refine ⟨rfl, ?_⟩; go_frame) | ((with_reducible refine Hp.lds H ?_); refine ⟨rfl, by kernel_rfl, ?_⟩; refine ⟨_, s_look rfl, ?_⟩; refine ⟨_, _, rfl, ?_⟩; ((repeat ((fail_if_success refine ⟨_, _, _, .z, ?_⟩); refine hs ?_)); refine ⟨_, _, _, .z, ?_⟩); (first | refine ⟨[_, _], rfl, rfl, ?_⟩ | refine ⟨[_, _, _, _], rfl, rfl, ?_⟩ | refine ⟨[_, _, _, _, _, _, _], rfl, rfl, ?_⟩ | refine ⟨[_, _, _], rfl, rfl, ?_⟩ | (fail)); go_frame) | ((with_reducible refine Hp.sto H ?_); refine ⟨rfl, ?_⟩; refine ⟨c_look rfl, ?_⟩; refine ⟨_, _, rfl, ?_⟩; ((repeat ((fail_if_success refine ⟨_, _, _, .z, ?_⟩); refine hs ?_)); refine ⟨_, _, _, .z, ?_⟩); refine ⟨⟨_, rfl⟩, rfl, ?_⟩; (clear H; intro w1 H; simp only [List.set] at H); go_frame) | ((with_reducible refine Hp.sta H ?_); refine ⟨rfl, ?_⟩; refine ⟨_, s_look rfl, ?_⟩; refine ⟨_, rfl, _, rfl, rfl, ?_⟩; ((repeat ((fail_if_success refine ⟨_, _, _, .z, ?_⟩); refine hs ?_)); refine ⟨_, _, _, .z, ?_⟩); refine ⟨rfl, rfl, ?_⟩; (clear H; intro w1 H; simp only [List.set] at H); go_frame) | ((with_reducible refine Hp.str H ?_); refine ⟨rfl, ?_⟩; refine ⟨_, s_look rfl, ?_⟩; refine ⟨_, _, rfl, _, rfl, rfl, ?_⟩; ((repeat ((fail_if_success refine ⟨_, _, _, .z, ?_⟩); refine hs ?_)); refine ⟨_, _, _, .z, ?_⟩); refine ⟨rfl, _, rfl, _, rfl, Nat.le_of_ble_eq_true rfl, ?_⟩; (clear H; intro w1 H; simp only [List.set] at H); go_frame) | ((with_reducible refine Hp.bdl H ?_); (fail); go_frame) | ((with_reducible refine Hp.ldo H ?_); refine ⟨rfl, by kernel_rfl, ?_⟩; refine ⟨_, rfl, ?_⟩; refine ⟨_, ‹_›, ?_⟩; go_frame) | ((with_reducible refine Hp.bslc H int_sl int_i1 ?_); refine ⟨rfl, _, rfl, rfl, ?_⟩; (clear H; intro g1 w1 H); go_frame) | (at_builtin; (with_reducible refine Hp.wlAppRow H int_sl int_info rfl rfl rfl ?_); refine ⟨1, _, _, _, _, rfl, rfl, 0, _, _, _, riC _, rfl, rfl, rfl, ri_one _, hml, ?_⟩; (clear H; intro A1 c1 w1 H); simp only [List.set_cons_succ, List.set_cons_zero] at H; replace H := H.tail))
        go_roundw
        case measure => simp [intOf]; omega
        case rel =>
          refine ⟨k + 1, A, c, hlt, by go_num, ?_, ?_⟩
          · rw [HMS.out, HG.out, ← HL.out]; rfl
          · rw [HMS.out, HG.out, HL.out]; exact H
      | none =>
        rw [hg] at hct
        have HG := Lib.hid hg
        clear hg
        go_wp2_with (first | ((with_reducible refine Hp.box H ?_); (first | refine ⟨rfl, [.pointer _], rfl, ?_⟩ | refine ⟨rfl, [.int _ _], rfl, ?_⟩ | refine ⟨rfl, [.slice _ _ _], rfl, ?_⟩ | refine ⟨rfl, [.bool _], rfl, ?_⟩ | refine ⟨rfl, [.string _], rfl, ?_⟩ | refine ⟨rfl, _, rfl, ?_⟩); (clear H; intro g1 w1 H); go_frame) | ((with_reducible refine Hp.allo H ?_); refine ⟨rfl, ?_⟩; refine ⟨_, z_look rfl, ?_⟩; (clear H; intro g1 w1 H); go_frame) | ((with_reducible refine Hp.ld H ?_); refine ⟨rfl, ?_⟩; refine ⟨c_look rfl, ?_⟩; refine ⟨_, _, rfl, ?_⟩; ((repeat ((fail_if_success refine ⟨_, _, _, .z, ?_⟩); refine hs ?_)); refine ⟨_, _, _, .z, ?_⟩); refine ⟨_, rfl, ?_⟩; go_frame) | ((with_reducible refine Hp.lda H ?_); refine ⟨rfl, by kernel_rfl, ?_⟩; refine ⟨_, s_look rfl, ?_⟩; refine ⟨_, rfl, ?_⟩; ((repeat ((fail_if_success refine ⟨_, _, _, .z, ?_⟩); refine hs ?_)); refine ⟨_, _, _, .z, ?_⟩); refine ⟨rfl, ?_⟩; go_frame) | ((with_reducible refine Hp.lds H ?_); refine ⟨rfl, by kernel_rfl, ?_⟩; refine ⟨_, s_look rfl, ?_⟩; refine ⟨_, _, rfl, ?_⟩; ((repeat ((fail_if_success refine ⟨_, _, _, .z, ?_⟩); refine hs ?_)); refine ⟨_, _, _, .z, ?_⟩); (first | refine ⟨[_, _], rfl, rfl, ?_⟩ | refine ⟨[_, _, _, _], rfl, rfl, ?_⟩ | refine ⟨[_, _, _, _, _, _, _], rfl, rfl, ?_⟩ | refine ⟨[_, _, _], rfl, rfl, ?_⟩ | (fail)); go_frame) | ((with_reducible refine Hp.sto H ?_); refine ⟨rfl, ?_⟩; refine ⟨c_look rfl, ?_⟩; refine ⟨_, _, rfl, ?_⟩; ((repeat ((fail_if_success refine ⟨_, _, _, .z, ?_⟩); refine hs ?_)); refine ⟨_, _, _, .z, ?_⟩); refine ⟨⟨_, rfl⟩, rfl, ?_⟩; (clear H; intro w1 H; simp only [List.set] at H); go_frame) | ((with_reducible refine Hp.sta H ?_); refine ⟨rfl, ?_⟩; refine ⟨_, s_look rfl, ?_⟩; refine ⟨_, rfl, _, rfl, rfl, ?_⟩; ((repeat ((fail_if_success refine ⟨_, _, _, .z, ?_⟩); refine hs ?_)); refine ⟨_, _, _, .z, ?_⟩); refine ⟨rfl, rfl, ?_⟩; (clear H; intro w1 H; simp only [List.set] at H); go_frame) | ((with_reducible refine Hp.str H ?_); refine ⟨rfl, ?_⟩; refine ⟨_, s_look rfl, ?_⟩; refine ⟨_, _, rfl, _, rfl, rfl, ?_⟩; ((repeat ((fail_if_success refine ⟨_, _, _, .z, ?_⟩); refine hs ?_)); refine ⟨_, _, _, .z, ?_⟩); refine ⟨rfl, _, rfl, _, rfl, Nat.le_of_ble_eq_true rfl, ?_⟩; (clear H; intro w1 H; simp only [List.set] at H); go_frame) | ((with_reducible refine Hp.bdl H ?_); (fail); go_frame) | ((with_reducible refine Hp.ldo H ?_); refine ⟨rfl, by kernel_rfl, ?_⟩; refine ⟨_, rfl, ?_⟩; refine ⟨_, ‹_›, ?_⟩; go_frame) | ((with_reducible refine Hp.bslc H int_sl int_i1 ?_); refine ⟨rfl, _, rfl, rfl, ?_⟩; (clear H; intro g1 w1 H); go_frame) | (at_builtin; (with_reducible refine Hp.wlAppRow H int_sl int_info rfl rfl rfl ?_); refine ⟨1, _, _, _, _, rfl, rfl, 0, _, _, _, riC _, rfl, rfl, rfl, ri_one _, hml, ?_⟩; (clear H; intro A1 c1 w1 H); simp only [List.set_cons_succ, List.set_cons_zero] at H; replace H := H.tail))
        go_roundw
        case measure => simp [intOf]; omega
        case rel =>
          have e : s.miss (k + 1) = l ++ [(k : Int)] := by rw [HMS.out, HG.out, HL.out]; rfl
          refine ⟨k + 1, A1, c1, hlt, by go_num, ?_, ?_⟩
          · rw [e, List.length_append]; rfl
          · rw [e]
            have : rowsC riC (l ++ [(k : Int)]) = rowsC riC l ++ riC (k : Int) := rowsC_snoc _ _
            show Hp w _ [.own 3 1 A1 (l ++ [(k : Int)]).length c1 (rowsC riC (l ++ [(k : Int)]))]
            rw [this, List.length_append]
            exact H
    · obtain rfl : k = s.n := by omega
      go_wp2_with (first | ((with_reducible refine Hp.box H ?_); (first | refine ⟨rfl, [.pointer _], rfl, ?_⟩ | refine ⟨rfl, [.int _ _], rfl, ?_⟩ | refine ⟨rfl, [.slice _ _ _], rfl, ?_⟩ | refine ⟨rfl, [.bool _], rfl, ?_⟩ | refine ⟨rfl, [.string _], rfl, ?_⟩ | refine ⟨rfl, _, rfl, ?_⟩); (clear H; intro g1 w1 H); go_frame) | ((with_reducible refine Hp.allo H ?_); refine ⟨rfl, ?_⟩; refine ⟨_, z_look rfl, ?_⟩; (clear H; intro g1 w1 H); go_frame) | ((with_reducible refine Hp.ld H ?_); refine ⟨rfl, ?_⟩; refine ⟨c_look rfl, ?_⟩; refine ⟨_, _, rfl, ?_⟩; ((repeat ((fail_if_success refine ⟨_, _, _, .z, ?_⟩); refine hs ?_)); refine ⟨_, _, _, .z, ?_⟩); refine ⟨_, rfl, ?_⟩; go_frame) | ((with_reducible refine Hp.lda H ?_); refine ⟨rfl, by kernel_rfl, ?_⟩; refine ⟨_, s_look rfl, ?_⟩; refine ⟨_, rfl, ?_⟩; ((repeat ((fail_if_success refine ⟨_, _, _, .z, ?_⟩); refine hs ?_)); refine ⟨_, _, _, .z, ?_⟩); refine ⟨rfl, ?_⟩; go_frame) | ((with_reducible refine Hp.lds H ?_); refine ⟨rfl, by kernel_rfl, ?_⟩; refine ⟨_, s_look rfl, ?_⟩; refine ⟨_, _, rfl, ?_⟩; ((repeat ((fail_if_success refine ⟨_, _, _, .z, ?_⟩); refine hs ?_)); refine ⟨_, _, _, .z, ?_⟩); (first | refine ⟨[_, _], rfl, rfl, ?_⟩ | refine ⟨[_, _, _, _], rfl, rfl, ?_⟩ | refine ⟨[_, _, _, _, _, _, _], rfl, rfl, ?_⟩ | refine ⟨[_, _, _], rfl, rfl, ?_⟩ | (fail)); go_frame) | ((with_reducible refine Hp.sto H ?_); refine ⟨rfl, ?_⟩; refine ⟨c_look rfl, ?_⟩; refine ⟨_, _, rfl, ?_⟩; ((repeat ((fail_if_success refine ⟨_, _, _, .z, ?_⟩); refine hs ?_)); refine ⟨_, _, _, .z, ?_⟩); refine ⟨⟨_, rfl⟩, rfl, ?_⟩; (clear H; intro w1 H; simp only [List.set] at H); go_frame) | ((with_reducible refine Hp.sta H ?_); refine ⟨rfl, ?_⟩; refine ⟨_, s_look rfl, ?_⟩; refine ⟨_, rfl, _, rfl, rfl, ?_⟩; ((repeat ((fail_if_success refine ⟨_, _, _, .z, ?_⟩); refine hs ?_)); refine ⟨_, _, _, .z, ?_⟩); refine ⟨rfl, rfl, ?_⟩; (clear H; intro w1 H; simp only [List.set] at H); go_frame) | ((with_reducible refine Hp.str H ?_); refine ⟨rfl, ?_⟩; refine ⟨_, s_look rfl, ?_⟩; refine ⟨_, _, rfl, _, rfl, rfl, ?_⟩; ((repeat ((fail_if_success refine ⟨_, _, _, .z, ?_⟩); refine hs ?_)); refine ⟨_, _, _, .z, ?_⟩); refine ⟨rfl, _, rfl, _, rfl, Nat.le_of_ble_eq_true rfl, ?_⟩; (clear H; intro w1 H; simp only [List.set] at H); go_frame) | ((with_reducible refine Hp.bdl H ?_); (fail); go_frame) | ((with_reducible refine Hp.ldo H ?_); refine ⟨rfl, by kernel_rfl, ?_⟩; refine ⟨_, rfl, ?_⟩; refine ⟨_, ‹_›, ?_⟩; go_frame) | ((with_reducible refine Hp.bslc H int_sl int_i1 ?_); refine ⟨rfl, _, rfl, rfl, ?_⟩; (clear H; intro g1 w1 H); go_frame) | (at_builtin; (with_reducible refine Hp.wlAppRow H int_sl int_info rfl rfl rfl ?_); refine ⟨1, _, _, _, _, rfl, rfl, 0, _, _, _, riC _, rfl, rfl, rfl, ri_one _, hml, ?_⟩; (clear H; intro A1 c1 w1 H); simp only [List.set_cons_succ, List.set_cons_zero] at H; replace H := H.tail))
      go_ret
      exact ⟨A, c, rfl, H⟩
/-! Whole. -/
def Hs.rwL (s : Hs) : List UInt8 := if (s.miss s.n).length = 0 then s.wl s.n else []
def Hs.rwE (s : Hs) : Int := if (s.miss s.n).length = 0 then 0 else 120
theorem miss_pos {s : Hs} {k : Nat} (hg : s.get (k : Int) = none) : ∀ {n : Nat}, k < n → (s.miss n).length ≠ 0
  | n + 1, h => by
    rw [miss_succ]
    by_cases e : n = k
    · subst e
      rw [if_pos (by rw [hg]; rfl), List.length_append]
      simp
    · have := miss_pos hg (n := n) (by omega)
      split
      · rw [List.length_append]; omega
      · exact this
set_option maxRecDepth 100000 in
set_option maxHeartbeats 1000000 in
theorem rwhole_any (gr gt gl : Nat) (s : Hs) (w : World) (hM : RM w gr gt gl s) (hn8 : s.n ≤ 1000) (hx : ∀ x ∈ s.ms, x.2.1.l.length ≤ 1000) : Calls Try.prog 26 #[.pointer (some ⟨gr, 0, none⟩)] w (RetBI w s.rwL s.rwE) := by
  have H := (Hp.nil w).nilOwn
  have hc0 := hM.c0
  have hc1 := hM.c1
  have hXl := True.intro
  go_enter Try.func26, Try.ntmps26
  go_wp2_with (first | ((with_reducible refine Hp.box H ?_); (first | refine ⟨rfl, [.pointer _], rfl, ?_⟩ | refine ⟨rfl, [.int _ _], rfl, ?_⟩ | refine ⟨rfl, [.slice _ _ _], rfl, ?_⟩ | refine ⟨rfl, [.bool _], rfl, ?_⟩ | refine ⟨rfl, [.string _], rfl, ?_⟩ | refine ⟨rfl, _, rfl, ?_⟩); (clear H; intro g1 w1 H); go_frame) | ((with_reducible refine Hp.allo H ?_); refine ⟨rfl, ?_⟩; refine ⟨_, z_look rfl, ?_⟩; (clear H; intro g1 w1 H); go_frame) | ((with_reducible refine Hp.ld H ?_); refine ⟨rfl, ?_⟩; refine ⟨c_look rfl, ?_⟩; refine ⟨_, _, rfl, ?_⟩; ((repeat ((fail_if_success refine ⟨_, _, _, .z, ?_⟩); refine hs ?_)); refine ⟨_, _, _, .z, ?_⟩); refine ⟨_, rfl, ?_⟩; go_frame) | ((with_reducible refine Hp.lda H ?_); refine ⟨rfl, by kernel_rfl, ?_⟩; refine ⟨_, s_look rfl, ?_⟩; refine ⟨_, rfl, ?_⟩; ((repeat ((fail_if_success refine ⟨_, _, _, .z, ?_⟩); refine hs ?_)); refine ⟨_, _, _, .z, ?_⟩); refine ⟨rfl, ?_⟩; go_frame) | ((with_reducible refine Hp.lds H ?_); refine ⟨rfl, by kernel_rfl, ?_⟩; refine ⟨_, s_look rfl, ?_⟩; refine ⟨_, _, rfl, ?_⟩; ((repeat ((fail_if_success refine ⟨_, _, _, .z, ?_⟩); refine hs ?_)); refine ⟨_, _, _, .z, ?_⟩); (first | refine ⟨[_, _], rfl, rfl, ?_⟩ | refine ⟨[_, _, _, _], rfl, rfl, ?_⟩ | refine ⟨[_, _, _, _, _, _, _], rfl, rfl, ?_⟩ | refine ⟨[_, _, _], rfl, rfl, ?_⟩ | (fail)); go_frame) | ((with_reducible refine Hp.sto H ?_); refine ⟨rfl, ?_⟩; refine ⟨c_look rfl, ?_⟩; refine ⟨_, _, rfl, ?_⟩; ((repeat ((fail_if_success refine ⟨_, _, _, .z, ?_⟩); refine hs ?_)); refine ⟨_, _, _, .z, ?_⟩); refine ⟨⟨_, rfl⟩, rfl, ?_⟩; (clear H; intro w1 H; simp only [List.set] at H); go_frame) | ((with_reducible refine Hp.sta H ?_); refine ⟨rfl, ?_⟩; refine ⟨_, s_look rfl, ?_⟩; refine ⟨_, rfl, _, rfl, rfl, ?_⟩; ((repeat ((fail_if_success refine ⟨_, _, _, .z, ?_⟩); refine hs ?_)); refine ⟨_, _, _, .z, ?_⟩); refine ⟨rfl, rfl, ?_⟩; (clear H; intro w1 H; simp only [List.set] at H); go_frame) | ((with_reducible refine Hp.str H ?_); refine ⟨rfl, ?_⟩; refine ⟨_, s_look rfl, ?_⟩; refine ⟨_, _, rfl, _, rfl, rfl, ?_⟩; ((repeat ((fail_if_success refine ⟨_, _, _, .z, ?_⟩); refine hs ?_)); refine ⟨_, _, _, .z, ?_⟩); refine ⟨rfl, _, rfl, _, rfl, Nat.le_of_ble_eq_true rfl, ?_⟩; (clear H; intro w1 H; simp only [List.set] at H); go_frame) | ((with_reducible refine Hp.bdl H ?_); (fail); go_frame) | ((with_reducible refine Hp.ldo H ?_); refine ⟨rfl, by kernel_rfl, ?_⟩; refine ⟨_, rfl, ?_⟩; refine ⟨_, ‹_›, ?_⟩; go_frame) | (at_builtin; refine H.wlAppendBytes rfl _ _ rfl 0 _ _ _ _ (by rfl) rfl rfl xA xl.length xc xl (by rfl) rfl (hr.below H.below) hXl ?_; (clear H; intro A1 c1 w1 H); simp only [List.set] at H))
  go_loopw [4, 5] (fun v i wr => ∃ (k : Nat) (A : Option Addr) (c : Nat), k ≤ s.n ∧ i = .int .i64 k ∧ v = .slice A (s.wl k).length c ∧ Hid (s.miss k = []) ∧ Hp w wr [.bytes A c (s.wl k)]) (fun _ i _ => s.n - (intOf i).toNat)
  case atStart => exact ⟨0, none, 0, Nat.zero_le _, rfl, rfl, Lib.hid rfl, H⟩
  case round =>
    clear H
    obtain ⟨k, A, c, hk, rfl, rfl, HMK, H⟩ := hrel
    by_cases hlt : k < s.n
    · have hct := hM.ct k hlt
      obtain ⟨xA, xc, hcl, hr⟩ := hM.cl k hlt
      have hws := Lib.hid (wl_succ s k)
      have hwl := wl_le hx k
      have hgl := getL_le hx (k : Int)
      have HMS := Lib.hid (miss_succ s k)
      obtain ⟨xl, hxl⟩ : ∃ xl, s.getL (k : Int) = xl := ⟨_, rfl⟩
      have HXL := Lib.hid hxl
      rw [hxl] at hgl hcl hr
      clear hxl
      obtain ⟨l, hl⟩ : ∃ l, s.wl k = l := ⟨_, rfl⟩
      have HL := Lib.hid hl
      rw [hl] at H hwl ⊢
      clear hl
      have hXl : l.length + xl.length ≤ 140737488355328 := by
        have : k * 1000 ≤ 1000 * 1000 := Nat.mul_le_mul_right _ (by omega)
        omega
      clear hwl hgl
      cases hg : s.get (k : Int) with
      | some x =>
        rw [hg] at hct
        have HG := Lib.hid hg
        clear hg
        go_wp2_with (first | ((with_reducible refine Hp.box H ?_); (first | refine ⟨rfl, [.pointer _], rfl, ?_⟩ | refine ⟨rfl, [.int _ _], rfl, ?_⟩ | refine ⟨rfl, [.slice _ _ _], rfl, ?_⟩ | refine ⟨rfl, [.bool _], rfl, ?_⟩ | refine ⟨rfl, [.string _], rfl, ?_⟩ | refine ⟨rfl, _, rfl, ?_⟩); (clear H; intro g1 w1 H); go_frame) | ((with_reducible refine Hp.allo H ?_); refine ⟨rfl, ?_⟩; refine ⟨_, z_look rfl, ?_⟩; (clear H; intro g1 w1 H); go_frame) | ((with_reducible refine Hp.ld H ?_); refine ⟨rfl, ?_⟩; refine ⟨c_look rfl, ?_⟩; refine ⟨_, _, rfl, ?_⟩; ((repeat ((fail_if_success refine ⟨_, _, _, .z, ?_⟩); refine hs ?_)); refine ⟨_, _, _, .z, ?_⟩); refine ⟨_, rfl, ?_⟩; go_frame) | ((with_reducible refine Hp.lda H ?_); refine ⟨rfl, by kernel_rfl, ?_⟩; refine ⟨_, s_look rfl, ?_⟩; refine ⟨_, rfl, ?_⟩; ((repeat ((fail_if_success refine ⟨_, _, _, .z, ?_⟩); refine hs ?_)); refine ⟨_, _, _, .z, ?_⟩); refine ⟨rfl, ?_⟩; go_frame) | ((with_reducible refine Hp.lds H ?_); refine ⟨rfl, by kernel_rfl, ?_⟩; refine ⟨_, s_look rfl, ?_⟩; refine ⟨_, _, rfl, ?_⟩; ((repeat ((fail_if_success refine ⟨_, _, _, .z, ?_⟩); refine hs ?_)); refine ⟨_, _, _, .z, ?_⟩); (first | refine ⟨[_, _], rfl, rfl, ?_⟩ | refine ⟨[_, _, _, _], rfl, rfl, ?_⟩ | refine ⟨[_, _, _, _, _, _, _], rfl, rfl, ?_⟩ | refine ⟨[_, _, _], rfl, rfl, ?_⟩ | (fail)); go_frame) | ((with_reducible refine Hp.sto H ?_); refine ⟨rfl, ?_⟩; refine ⟨c_look rfl, ?_⟩; refine ⟨_, _, rfl, ?_⟩; ((repeat ((fail_if_success refine ⟨_, _, _, .z, ?_⟩); refine hs ?_)); refine ⟨_, _, _, .z, ?_⟩); refine ⟨⟨_, rfl⟩, rfl, ?_⟩; (clear H; intro w1 H; simp only [List.set] at H); go_frame) | ((with_reducible refine Hp.sta H ?_); refine ⟨rfl, ?_⟩; refine ⟨_, s_look rfl, ?_⟩; refine ⟨_, rfl, _, rfl, rfl, ?_⟩; ((repeat ((fail_if_success refine ⟨_, _, _, .z, ?_⟩); refine hs ?_)); refine ⟨_, _, _, .z, ?_⟩); refine ⟨rfl, rfl, ?_⟩; (clear H; intro w1 H; simp only [List.set] at H); go_frame) | ((with_reducible refine Hp.str H ?_); refine ⟨rfl, ?_⟩; refine ⟨_, s_look rfl, ?_⟩; refine ⟨_, _, rfl, _, rfl, rfl, ?_⟩; ((repeat ((fail_if_success refine ⟨_, _, _, .z, ?_⟩); refine hs ?_)); refine ⟨_, _, _, .z, ?_⟩); refine ⟨rfl, _, rfl, _, rfl, Nat.le_of_ble_eq_true rfl, ?_⟩; (clear H; intro w1 H; simp only [List.set] at H); go_frame) | ((with_reducible refine Hp.bdl H ?_); (fail); go_frame) | ((with_reducible refine Hp.ldo H ?_); refine ⟨rfl, by kernel_rfl, ?_⟩; refine ⟨_, rfl, ?_⟩; refine ⟨_, ‹_›, ?_⟩; go_frame) | (at_builtin; refine H.wlAppendBytes rfl _ _ rfl 0 _ _ _ _ (by rfl) rfl rfl xA xl.length xc xl (by rfl) rfl (hr.below H.below) hXl ?_; (clear H; intro A1 c1 w1 H); simp only [List.set] at H))
        go_roundw
        case measure => simp [intOf]; omega
        case rel =>
          have e : s.wl (k + 1) = l ++ xl := by rw [hws.out, HL.out, HXL.out]
          refine ⟨k + 1, A1, c1, hlt, by go_num, ?_, Lib.hid ?_, ?_⟩
          · rw [e, List.length_append]
          · rw [HMS.out, HG.out, HMK.out]; rfl
          · rw [e]; exact H
      | none =>
        rw [hg] at hct
        have hmp := miss_pos hg hlt
        have HE1 : Hid (s.rwL = []) := Lib.hid (by unfold Hs.rwL; rw [if_neg hmp])
        have HE2 : Hid (s.rwE = 120) := Lib.hid (by unfold Hs.rwE; rw [if_neg hmp])
        clear hg hmp
        go_wp2_with (first | ((with_reducible refine Hp.box H ?_); (first | refine ⟨rfl, [.pointer _], rfl, ?_⟩ | refine ⟨rfl, [.int _ _], rfl, ?_⟩ | refine ⟨rfl, [.slice _ _ _], rfl, ?_⟩ | refine ⟨rfl, [.bool _], rfl, ?_⟩ | refine ⟨rfl, [.string _], rfl, ?_⟩ | refine ⟨rfl, _, rfl, ?_⟩); (clear H; intro g1 w1 H); go_frame) | ((with_reducible refine Hp.allo H ?_); refine ⟨rfl, ?_⟩; refine ⟨_, z_look rfl, ?_⟩; (clear H; intro g1 w1 H); go_frame) | ((with_reducible refine Hp.ld H ?_); refine ⟨rfl, ?_⟩; refine ⟨c_look rfl, ?_⟩; refine ⟨_, _, rfl, ?_⟩; ((repeat ((fail_if_success refine ⟨_, _, _, .z, ?_⟩); refine hs ?_)); refine ⟨_, _, _, .z, ?_⟩); refine ⟨_, rfl, ?_⟩; go_frame) | ((with_reducible refine Hp.lda H ?_); refine ⟨rfl, by kernel_rfl, ?_⟩; refine ⟨_, s_look rfl, ?_⟩; refine ⟨_, rfl, ?_⟩; ((repeat ((fail_if_success refine ⟨_, _, _, .z, ?_⟩); refine hs ?_)); refine ⟨_, _, _, .z, ?_⟩); refine ⟨rfl, ?_⟩; go_frame) | ((with_reducible refine Hp.lds H ?_); refine ⟨rfl, by kernel_rfl, ?_⟩; refine ⟨_, s_look rfl, ?_⟩; refine ⟨_, _, rfl, ?_⟩; ((repeat ((fail_if_success refine ⟨_, _, _, .z, ?_⟩); refine hs ?_)); refine ⟨_, _, _, .z, ?_⟩); (first | refine ⟨[_, _], rfl, rfl, ?_⟩ | refine ⟨[_, _, _, _], rfl, rfl, ?_⟩ | refine ⟨[_, _, _, _, _, _, _], rfl, rfl, ?_⟩ | refine ⟨[_, _, _], rfl, rfl, ?_⟩ | (fail)); go_frame) | ((with_reducible refine Hp.sto H ?_); refine ⟨rfl, ?_⟩; refine ⟨c_look rfl, ?_⟩; refine ⟨_, _, rfl, ?_⟩; ((repeat ((fail_if_success refine ⟨_, _, _, .z, ?_⟩); refine hs ?_)); refine ⟨_, _, _, .z, ?_⟩); refine ⟨⟨_, rfl⟩, rfl, ?_⟩; (clear H; intro w1 H; simp only [List.set] at H); go_frame) | ((with_reducible refine Hp.sta H ?_); refine ⟨rfl, ?_⟩; refine ⟨_, s_look rfl, ?_⟩; refine ⟨_, rfl, _, rfl, rfl, ?_⟩; ((repeat ((fail_if_success refine ⟨_, _, _, .z, ?_⟩); refine hs ?_)); refine ⟨_, _, _, .z, ?_⟩); refine ⟨rfl, rfl, ?_⟩; (clear H; intro w1 H; simp only [List.set] at H); go_frame) | ((with_reducible refine Hp.str H ?_); refine ⟨rfl, ?_⟩; refine ⟨_, s_look rfl, ?_⟩; refine ⟨_, _, rfl, _, rfl, rfl, ?_⟩; ((repeat ((fail_if_success refine ⟨_, _, _, .z, ?_⟩); refine hs ?_)); refine ⟨_, _, _, .z, ?_⟩); refine ⟨rfl, _, rfl, _, rfl, Nat.le_of_ble_eq_true rfl, ?_⟩; (clear H; intro w1 H; simp only [List.set] at H); go_frame) | ((with_reducible refine Hp.bdl H ?_); (fail); go_frame) | ((with_reducible refine Hp.ldo H ?_); refine ⟨rfl, by kernel_rfl, ?_⟩; refine ⟨_, rfl, ?_⟩; refine ⟨_, ‹_›, ?_⟩; go_frame) | (at_builtin; refine H.wlAppendBytes rfl _ _ rfl 0 _ _ _ _ (by rfl) rfl rfl xA xl.length xc xl (by rfl) rfl (hr.below H.below) hXl ?_; (clear H; intro A1 c1 w1 H); simp only [List.set] at H))
        go_ret2
        rw [HE1.out, HE2.out]
        exact ⟨none, 0, rfl, Own.none_ _ _, H.below⟩
    · obtain rfl : k = s.n := by omega
      have HE1 : Hid (s.rwL = s.wl s.n) := Lib.hid (by unfold Hs.rwL; rw [HMK.out]; rfl)
      have HE2 : Hid (s.rwE = 0) := Lib.hid (by unfold Hs.rwE; rw [HMK.out]; rfl)
      go_wp2_with (first | ((with_reducible refine Hp.box H ?_); (first | refine ⟨rfl, [.pointer _], rfl, ?_⟩ | refine ⟨rfl, [.int _ _], rfl, ?_⟩ | refine ⟨rfl, [.slice _ _ _], rfl, ?_⟩ | refine ⟨rfl, [.bool _], rfl, ?_⟩ | refine ⟨rfl, [.string _], rfl, ?_⟩ | refine ⟨rfl, _, rfl, ?_⟩); (clear H; intro g1 w1 H); go_frame) | ((with_reducible refine Hp.allo H ?_); refine ⟨rfl, ?_⟩; refine ⟨_, z_look rfl, ?_⟩; (clear H; intro g1 w1 H); go_frame) | ((with_reducible refine Hp.ld H ?_); refine ⟨rfl, ?_⟩; refine ⟨c_look rfl, ?_⟩; refine ⟨_, _, rfl, ?_⟩; ((repeat ((fail_if_success refine ⟨_, _, _, .z, ?_⟩); refine hs ?_)); refine ⟨_, _, _, .z, ?_⟩); refine ⟨_, rfl, ?_⟩; go_frame) | ((with_reducible refine Hp.lda H ?_); refine ⟨rfl, by kernel_rfl, ?_⟩; refine ⟨_, s_look rfl, ?_⟩; refine ⟨_, rfl, ?_⟩; ((repeat ((fail_if_success refine ⟨_, _, _, .z, ?_⟩); refine hs ?_)); refine ⟨_, _, _, .z, ?_⟩); refine ⟨rfl, ?_⟩; go_frame) | ((with_reducible refine Hp.lds H ?_); refine ⟨rfl, by kernel_rfl, ?_⟩; refine ⟨_, s_look rfl, ?_⟩; refine ⟨_, _, rfl, ?_⟩; ((repeat ((fail_if_success refine ⟨_, _, _, .z, ?_⟩); refine hs ?_)); refine ⟨_, _, _, .z, ?_⟩); (first | refine ⟨[_, _], rfl, rfl, ?_⟩ | refine ⟨[_, _, _, _], rfl, rfl, ?_⟩ | refine ⟨[_, _, _, _, _, _, _], rfl, rfl, ?_⟩ | refine ⟨[_, _, _], rfl, rfl, ?_⟩ | (fail)); go_frame) | ((with_reducible refine Hp.sto H ?_); refine ⟨rfl, ?_⟩; refine ⟨c_look rfl, ?_⟩; refine ⟨_, _, rfl, ?_⟩; ((repeat ((fail_if_success refine ⟨_, _, _, .z, ?_⟩); refine hs ?_)); refine ⟨_, _, _, .z, ?_⟩); refine ⟨⟨_, rfl⟩, rfl, ?_⟩; (clear H; intro w1 H; simp only [List.set] at H); go_frame) | ((with_reducible refine Hp.sta H ?_); refine ⟨rfl, ?_⟩; refine ⟨_, s_look rfl, ?_⟩; refine ⟨_, rfl, _, rfl, rfl, ?_⟩; ((repeat ((fail_if_success refine ⟨_, _, _, .z, ?_⟩); refine hs ?_)); refine ⟨_, _, _, .z, ?_⟩); refine ⟨rfl, rfl, ?_⟩; (clear H; intro w1 H; simp only [List.set] at H); go_frame) | ((with_reducible refine Hp.str H ?_); refine ⟨rfl, ?_⟩; refine ⟨_, s_look rfl, ?_⟩; refine ⟨_, _, rfl, _, rfl, rfl, ?_⟩; ((repeat ((fail_if_success refine ⟨_, _, _, .z, ?_⟩); refine hs ?_)); refine ⟨_, _, _, .z, ?_⟩); refine ⟨rfl, _, rfl, _, rfl, Nat.le_of_ble_eq_true rfl, ?_⟩; (clear H; intro w1 H; simp only [List.set] at H); go_frame) | ((with_reducible refine Hp.bdl H ?_); (fail); go_frame) | ((with_reducible refine Hp.ldo H ?_); refine ⟨rfl, by kernel_rfl, ?_⟩; refine ⟨_, rfl, ?_⟩; refine ⟨_, ‹_›, ?_⟩; go_frame) | (at_builtin; refine H.wlAppendBytes rfl _ _ rfl 0 _ _ _ _ (by rfl) rfl rfl xA xl.length xc xl (by rfl) rfl (hr.below H.below) hXl ?_; (clear H; intro A1 c1 w1 H); simp only [List.set] at H))
      go_ret2
      rw [HE1.out, HE2.out]
      exact ⟨A, c, rfl, H.o 0 rfl, H.below⟩
end Go.Proofs.Ytanpglhpmfdnmaa
