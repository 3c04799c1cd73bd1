/-
  chunk.Heap: Put.
-/
import Derived.Test.YtanpglhpmfdnmaaChkK
namespace Go.Proofs.Ytanpglhpmfdnmaa
open Go.RowKit
set_option linter.unusedVariables false
set_option linter.unusedSimpArgs false
section
variable {a : Act} {w0 w : World} {Q : Exit → Act → World → Prop} {L : List Item} {t e : TypeId} {x y z : Operand} {oi : Oper} {K : Act → World → Prop}
theorem hw_bsl0 {n : Nat} (ho : oi.op = .buildSlice t 0 #[]) (ht : Try.prog.underlying t = some (.slice e)) (hi : (Try.prog.info? e).map (fun i => i.size) = some n) (H : Hp w0 w L)
    (h : ∀ g w', Below w.heap.size w w' → Hp w0 w' (.own e n (some ⟨g, 0, none⟩) 0 0 [] :: L) → K (a.put oi.dst (.slice (some ⟨g, 0, none⟩) 0 0)) w') : oi.wp Try.prog a w K Q := by
  cases hq : Try.prog.info? e with
  | none => rw [hq] at hi; cases hi
  | some i =>
    rw [hq] at hi
    simp only [Option.map_some, Option.some.injEq] at hi
    have he : (execOp a.eval oi).run Try.prog w = .ok (.value (.slice (some ⟨w.heap.size, 0, none⟩) 0 0)) (w.alloc (.cells #[] e)) := by
      simp [execOp, ho, Instr.buildSlice, run_underlying ht, sizeOf, typeInfo, hq, newRow, Instr.fill]
      congr 2
      apply Array.ext <;> simp
    have ho : (w.alloc (.cells #[] e)).ownsRow w0.heap.size e n (.slice (some ⟨w.heap.size, 0, none⟩) 0 0) 0 [] := by
      have := World.ownsRow_lit (base := w0.heap.size) (e := e) (size := n) w #[] 0 H.size (by unfold maxLen; omega) (by simp)
      simpa using this
    exact hw_turn he (h _ _ (bal0 _ _) (H.new (H.below.alloc H.size _) (by simp) (fun k hk => Below.heap_alloc w _ k hk) ho (fun k hk => by simp [Item.foot] at hk; subst hk; simp)))
theorem hw_putM {r : Nat} {k : Int} {v : Value} {ms : List En3} {cl i : Nat} (ho : oi.op = .mapUpdate 36 x y z) (hx : a.eval x = .map (some r)) (hy : a.eval y = .int .i64 k) (hz : a.eval z = v) (H : Hp w0 w L) (hL : L[i]? = some (.obj r (.map (ms.map mE).toArray cl)))
    (h : ∀ w', Hp w0 w' (L.set i (.obj r (.map ((putI k v cl ms).map mE).toArray (putC k cl ms)))) → K (a.put oi.dst undef) w') : oi.wp Try.prog a w K Q := by
  have hr := run_putI (P := Try.prog) map_u int_u (H.ob i hL) k v
  have he : (execOp a.eval oi).run Try.prog w = .ok .skip (mset w r (.map ((putI k v cl ms).map mE).toArray (putC k cl ms))) := by simp [execOp, ho, hx, hy, hz, hr]
  unfold Oper.wp
  rw [he]
  exact h _ (H.setObj i hL _)
theorem hw_startW {P : Program} {L0 : List Item} (L1 : List Item) (H : Hp w0 w (L1 ++ L0)) {id : Nat} {l : List Oper} (hm : P.follows .mixedOrders = true) (h : Hp w0 w.drew (L1 ++ L0) → wpAnyH P .any l.toArray Q (HpW w0 L0) l.length (Array.replicate l.length false) a w.drew) : (Code.region id l.toArray true).wp P Q a w :=
  wp_region_held_drew (S := HpW w0 L0) hm ⟨L1, H.drew⟩ (fun hh => by
    have := h H.drew
    simpa using this)
end
theorem u8_i1 : (Try.prog.info? 5).map (fun i => i.size) = some 1 := by kernel_rfl
set_option maxHeartbeats 1000000 in
theorem hput_no {w0 : World} {gh gm : Nat} {s : Hs} {L : List Item} (k : Int) (A : Option Addr) (c : Nat) (l : List UInt8) (w : World) (H : Hp w0 w (ghI gh gm s :: gmI gm s :: L)) (hn : 0 < s.n) (hf : pfB k s.n l.length = false) :
    Calls Try.prog 18 #[.pointer (some ⟨gh, 0, none⟩), .int .i64 k, .slice A l.length c] w (RetHW w0 (ghI gh gm s :: gmI gm s :: L) 2) := by
  have hn0 : ((s.n : Int) == 0) = false := by rw [beq_eq_false_iff_ne]; omega
  go_enter Try.func18, Try.ntmps18; go_wp2_with (first | ((with_reducible refine Hp.box H ?_); (first | refine ⟨rfl, [.pointer _], rfl, ?_⟩ | refine ⟨rfl, [.int _ _], rfl, ?_⟩ | refine ⟨rfl, [.slice _ _ _], rfl, ?_⟩ | refine ⟨rfl, [.bool _], rfl, ?_⟩ | refine ⟨rfl, [.string _], rfl, ?_⟩ | refine ⟨rfl, _, rfl, ?_⟩); (clear H; intro g1 w1 H); go_frame) | ((with_reducible refine Hp.allo H ?_); refine ⟨rfl, ?_⟩; refine ⟨_, z_look rfl, ?_⟩; (clear H; intro g1 w1 H); go_frame) | ((with_reducible refine Hp.ld H ?_); refine ⟨rfl, ?_⟩; refine ⟨c_look rfl, ?_⟩; refine ⟨_, _, rfl, ?_⟩; ((repeat ((fail_if_success refine ⟨_, _, _, .z, ?_⟩); refine hs ?_)); refine ⟨_, _, _, .z, ?_⟩); refine ⟨_, rfl, ?_⟩; go_frame) | ((with_reducible refine Hp.lda H ?_); refine ⟨rfl, by kernel_rfl, ?_⟩; refine ⟨_, s_look rfl, ?_⟩; refine ⟨_, rfl, ?_⟩; ((repeat ((fail_if_success refine ⟨_, _, _, .z, ?_⟩); refine hs ?_)); refine ⟨_, _, _, .z, ?_⟩); refine ⟨rfl, ?_⟩; go_frame) | ((with_reducible refine Hp.lds H ?_); refine ⟨rfl, by kernel_rfl, ?_⟩; refine ⟨_, s_look rfl, ?_⟩; refine ⟨_, _, rfl, ?_⟩; ((repeat ((fail_if_success refine ⟨_, _, _, .z, ?_⟩); refine hs ?_)); refine ⟨_, _, _, .z, ?_⟩); (first | refine ⟨[_, _], rfl, rfl, ?_⟩ | refine ⟨[_, _, _, _], rfl, rfl, ?_⟩ | refine ⟨[_, _, _, _, _, _, _], rfl, rfl, ?_⟩ | refine ⟨[_, _, _], rfl, rfl, ?_⟩ | (fail)); go_frame) | ((with_reducible refine Hp.sto H ?_); refine ⟨rfl, ?_⟩; refine ⟨c_look rfl, ?_⟩; refine ⟨_, _, rfl, ?_⟩; ((repeat ((fail_if_success refine ⟨_, _, _, .z, ?_⟩); refine hs ?_)); refine ⟨_, _, _, .z, ?_⟩); refine ⟨⟨_, rfl⟩, rfl, ?_⟩; (clear H; intro w1 H; simp only [List.set] at H); go_frame) | ((with_reducible refine Hp.sta H ?_); refine ⟨rfl, ?_⟩; refine ⟨_, s_look rfl, ?_⟩; refine ⟨_, rfl, _, rfl, rfl, ?_⟩; ((repeat ((fail_if_success refine ⟨_, _, _, .z, ?_⟩); refine hs ?_)); refine ⟨_, _, _, .z, ?_⟩); refine ⟨rfl, rfl, ?_⟩; (clear H; intro w1 H; simp only [List.set] at H); go_frame) | ((with_reducible refine Hp.str H ?_); refine ⟨rfl, ?_⟩; refine ⟨_, s_look rfl, ?_⟩; refine ⟨_, _, rfl, _, rfl, rfl, ?_⟩; ((repeat ((fail_if_success refine ⟨_, _, _, .z, ?_⟩); refine hs ?_)); refine ⟨_, _, _, .z, ?_⟩); refine ⟨rfl, _, rfl, _, rfl, Nat.le_of_ble_eq_true rfl, ?_⟩; (clear H; intro w1 H; simp only [List.set] at H); go_frame) | ((with_reducible refine Hp.bdl H ?_); (fail); go_frame) | ((with_reducible refine (hnone_made gh s.n _ (H.c 0 rfl 0 rfl) hn0).mono ?_); rintro _ w1 ⟨rfl, hb⟩; replace H := H.call hb; clear hb) | ((with_reducible refine (pfits_v hf _).mono ?_); rintro _ w1 ⟨rfl, hb⟩; replace H := H.call hb; clear hb))
  go_ret
  exact ⟨rfl, H⟩
/-- the heap with a chunk more -/
def RetPut (w0 : World) (gh gm : Nat) (s : Hs) (k : Int) (l : List UInt8) (L : List Item) (e : Ending) (w' : World) : Prop := ∃ A c, e = .returned (.int .i64 0) ∧ Hp w0 w' (ghI gh gm (s.put k ⟨A, c, l⟩) :: gmI gm (s.put k ⟨A, c, l⟩) :: .bytes A c l :: L)
set_option maxRecDepth 100000 in
set_option maxHeartbeats 1000000 in
theorem hput_yes {w0 : World} {gh gm : Nat} {s : Hs} {L : List Item} (k : Int) (A : Option Addr) (c : Nat) (l : List UInt8) (w : World) (H : Hp w0 w (ghI gh gm s :: gmI gm s :: L)) (hn : 0 < s.n) (hr : Rd w A l) (hl : l.length ≤ 1000) (hf : pfB k s.n l.length = true) :
    Calls Try.prog 18 #[.pointer (some ⟨gh, 0, none⟩), .int .i64 k, .slice A l.length c] w (RetPut w0 gh gm s k l L) := by
  have hn0 : ((s.n : Int) == 0) = false := by rw [beq_eq_false_iff_ne]; omega
  go_enter Try.func18, Try.ntmps18; go_wp2_with (first | ((with_reducible refine Hp.box H ?_); (first | refine ⟨rfl, [.pointer _], rfl, ?_⟩ | refine ⟨rfl, [.int _ _], rfl, ?_⟩ | refine ⟨rfl, [.slice _ _ _], rfl, ?_⟩ | refine ⟨rfl, [.bool _], rfl, ?_⟩ | refine ⟨rfl, [.string _], rfl, ?_⟩ | refine ⟨rfl, _, rfl, ?_⟩); (clear H; intro g1 w1 H); go_frame) | ((with_reducible refine Hp.allo H ?_); refine ⟨rfl, ?_⟩; refine ⟨_, z_look rfl, ?_⟩; (clear H; intro g1 w1 H); go_frame) | ((with_reducible refine Hp.ld H ?_); refine ⟨rfl, ?_⟩; refine ⟨c_look rfl, ?_⟩; refine ⟨_, _, rfl, ?_⟩; ((repeat ((fail_if_success refine ⟨_, _, _, .z, ?_⟩); refine hs ?_)); refine ⟨_, _, _, .z, ?_⟩); refine ⟨_, rfl, ?_⟩; go_frame) | ((with_reducible refine Hp.lda H ?_); refine ⟨rfl, by kernel_rfl, ?_⟩; refine ⟨_, s_look rfl, ?_⟩; refine ⟨_, rfl, ?_⟩; ((repeat ((fail_if_success refine ⟨_, _, _, .z, ?_⟩); refine hs ?_)); refine ⟨_, _, _, .z, ?_⟩); refine ⟨rfl, ?_⟩; go_frame) | ((with_reducible refine Hp.lds H ?_); refine ⟨rfl, by kernel_rfl, ?_⟩; refine ⟨_, s_look rfl, ?_⟩; refine ⟨_, _, rfl, ?_⟩; ((repeat ((fail_if_success refine ⟨_, _, _, .z, ?_⟩); refine hs ?_)); refine ⟨_, _, _, .z, ?_⟩); (first | refine ⟨[_, _], rfl, rfl, ?_⟩ | refine ⟨[_, _, _, _], rfl, rfl, ?_⟩ | refine ⟨[_, _, _, _, _, _, _], rfl, rfl, ?_⟩ | refine ⟨[_, _, _], rfl, rfl, ?_⟩ | (fail)); go_frame) | ((with_reducible refine Hp.sto H ?_); refine ⟨rfl, ?_⟩; refine ⟨c_look rfl, ?_⟩; refine ⟨_, _, rfl, ?_⟩; ((repeat ((fail_if_success refine ⟨_, _, _, .z, ?_⟩); refine hs ?_)); refine ⟨_, _, _, .z, ?_⟩); refine ⟨⟨_, rfl⟩, rfl, ?_⟩; (clear H; intro w1 H; simp only [List.set] at H); go_frame) | ((with_reducible refine Hp.sta H ?_); refine ⟨rfl, ?_⟩; refine ⟨_, s_look rfl, ?_⟩; refine ⟨_, rfl, _, rfl, rfl, ?_⟩; ((repeat ((fail_if_success refine ⟨_, _, _, .z, ?_⟩); refine hs ?_)); refine ⟨_, _, _, .z, ?_⟩); refine ⟨rfl, rfl, ?_⟩; (clear H; intro w1 H; simp only [List.set] at H); go_frame) | ((with_reducible refine Hp.str H ?_); refine ⟨rfl, ?_⟩; refine ⟨_, s_look rfl, ?_⟩; refine ⟨_, _, rfl, _, rfl, rfl, ?_⟩; ((repeat ((fail_if_success refine ⟨_, _, _, .z, ?_⟩); refine hs ?_)); refine ⟨_, _, _, .z, ?_⟩); refine ⟨rfl, _, rfl, _, rfl, Nat.le_of_ble_eq_true rfl, ?_⟩; (clear H; intro w1 H; simp only [List.set] at H); go_frame) | ((with_reducible refine Hp.bdl H ?_); (fail); go_frame) | ((with_reducible refine (hnone_made gh s.n _ (H.c 0 rfl 0 rfl) hn0).mono ?_); rintro _ w1 ⟨rfl, hb⟩; replace H := H.call hb; replace hr := hr.below hb; clear hb) | ((with_reducible refine (pfits_v hf _).mono ?_); rintro _ w1 ⟨rfl, hb⟩; replace H := H.call hb; replace hr := hr.below hb; clear hb))
  have H2 : Hp w0 w1 ((gmI gm s :: L) ++ [ghI gh gm s]) := H.perm (List.perm_append_singleton _ _).symm
  clear H
  refine hw_startW _ H2 (by kernel_rfl) (fun H => ?_)
  replace hr := hr.drew
  have hS : HpW w0 [ghI gh gm s] w1.drew := ⟨gmI gm s :: L, H⟩
  obtain ⟨w2, hw2⟩ : ∃ w2, w1.drew = w2 := ⟨_, rfl⟩
  rw [hw2] at H hr hS ⊢
  clear hw2 H2
  (refine hw_take hS 0 (by decide +kernel) (by decide +kernel) (by decide +kernel) ⟨_, rfl, rfl, ?_, ?_, fun _ _ _ h => h, ?_⟩; rotate_left; (intro w _; go_simp; try with_reducible rfl); go_frame); (refine hw_take hS 1 (by decide +kernel) (by decide +kernel) (by decide +kernel) ⟨_, rfl, rfl, ?_, ?_, fun _ _ _ h => h, ?_⟩; rotate_left; (intro w _; go_simp; try with_reducible rfl); go_frame); (refine hw_take hS 2 (by decide +kernel) (by decide +kernel) (by decide +kernel) ⟨_, rfl, rfl, ?_, ?_, fun _ _ _ h => h, ?_⟩; rotate_left; (intro w _; go_simp; try with_reducible rfl); go_frame); (refine hw_take hS 3 (by decide +kernel) (by decide +kernel) (by decide +kernel) ⟨_, rfl, rfl, _, fun w h => ex_load rfl rfl (hw_ld (by kernel_rfl) (.z) rfl w h), fun _ _ _ h => h, ?_⟩; go_frame); (refine hw_take hS 4 (by decide +kernel) (by decide +kernel) (by decide +kernel) ⟨_, rfl, rfl, ?_, ?_, fun _ _ _ h => h, ?_⟩; rotate_left; (intro w _; go_simp; try with_reducible rfl); go_frame); (refine hw_take hS 6 (by decide +kernel) (by decide +kernel) (by decide +kernel) ⟨_, rfl, rfl, ?_, ?_, fun _ _ _ h => h, ?_⟩; rotate_left; (intro w _; go_simp; try with_reducible rfl); go_frame)
  (refine hw_one 5 (by decide +kernel) ⟨_, rfl, rfl, fun K hK => ?_⟩; refine hw_bsl0 rfl u8_slice u8_i1 H (fun g3 w3 hb H => ?_); replace hr := hr.below hb; clear hb; refine hK _ _ ⟨.own 5 1 (some ⟨g3, 0, none⟩) 0 0 [] :: gmI gm s :: L, H⟩ ?_; clear hK K hS; go_frame)
  have hlen : ([] : List UInt8).length + l.length ≤ 140737488355328 := by rw [List.length_nil]; omega
  obtain ⟨A', c', w', hrun, H'⟩ := H.appBytes 22 0 (some ⟨g3, 0, none⟩) 0 [] rfl A c l hr hlen
  (refine hw_one 7 (by decide +kernel) ⟨_, rfl, rfl, fun K hK => ?_⟩; refine hw_turn (ex_append rfl rfl rfl hrun) ?_; refine hK _ _ ⟨.bytes A' c' l :: gmI gm s :: L, H'⟩ ?_; clear hK K; go_frame)
  (refine hw_one 8 (by decide +kernel) ⟨_, rfl, rfl, fun K hK => ?_⟩; refine hw_putM (i := 1) (ms := s.es) (cl := s.cl) (v := .slice A' l.length c') rfl rfl rfl rfl H' rfl (fun w4 H4 => ?_); refine hK _ _ ⟨.bytes A' c' l :: .obj gm _ :: L, H4⟩ ?_; clear hK K; go_frame)
  refine wpAnyH_done (by kernel_rfl) ?_ _
  go_wp2_with (first | ((with_reducible refine Hp.box H ?_); (first | refine ⟨rfl, [.pointer _], rfl, ?_⟩ | refine ⟨rfl, [.int _ _], rfl, ?_⟩ | refine ⟨rfl, [.slice _ _ _], rfl, ?_⟩ | refine ⟨rfl, [.bool _], rfl, ?_⟩ | refine ⟨rfl, [.string _], rfl, ?_⟩ | refine ⟨rfl, _, rfl, ?_⟩); (clear H; intro g1 w1 H); go_frame) | ((with_reducible refine Hp.allo H ?_); refine ⟨rfl, ?_⟩; refine ⟨_, z_look rfl, ?_⟩; (clear H; intro g1 w1 H); go_frame) | ((with_reducible refine Hp.ld H ?_); refine ⟨rfl, ?_⟩; refine ⟨c_look rfl, ?_⟩; refine ⟨_, _, rfl, ?_⟩; ((repeat ((fail_if_success refine ⟨_, _, _, .z, ?_⟩); refine hs ?_)); refine ⟨_, _, _, .z, ?_⟩); refine ⟨_, rfl, ?_⟩; go_frame) | ((with_reducible refine Hp.lda H ?_); refine ⟨rfl, by kernel_rfl, ?_⟩; refine ⟨_, s_look rfl, ?_⟩; refine ⟨_, rfl, ?_⟩; ((repeat ((fail_if_success refine ⟨_, _, _, .z, ?_⟩); refine hs ?_)); refine ⟨_, _, _, .z, ?_⟩); refine ⟨rfl, ?_⟩; go_frame) | ((with_reducible refine Hp.lds H ?_); refine ⟨rfl, by kernel_rfl, ?_⟩; refine ⟨_, s_look rfl, ?_⟩; refine ⟨_, _, rfl, ?_⟩; ((repeat ((fail_if_success refine ⟨_, _, _, .z, ?_⟩); refine hs ?_)); refine ⟨_, _, _, .z, ?_⟩); (first | refine ⟨[_, _], rfl, rfl, ?_⟩ | refine ⟨[_, _, _, _], rfl, rfl, ?_⟩ | refine ⟨[_, _, _, _, _, _, _], rfl, rfl, ?_⟩ | refine ⟨[_, _, _], rfl, rfl, ?_⟩ | (fail)); go_frame) | ((with_reducible refine Hp.sto H ?_); refine ⟨rfl, ?_⟩; refine ⟨c_look rfl, ?_⟩; refine ⟨_, _, rfl, ?_⟩; ((repeat ((fail_if_success refine ⟨_, _, _, .z, ?_⟩); refine hs ?_)); refine ⟨_, _, _, .z, ?_⟩); refine ⟨⟨_, rfl⟩, rfl, ?_⟩; (clear H; intro w1 H; simp only [List.set] at H); go_frame) | ((with_reducible refine Hp.sta H ?_); refine ⟨rfl, ?_⟩; refine ⟨_, s_look rfl, ?_⟩; refine ⟨_, rfl, _, rfl, rfl, ?_⟩; ((repeat ((fail_if_success refine ⟨_, _, _, .z, ?_⟩); refine hs ?_)); refine ⟨_, _, _, .z, ?_⟩); refine ⟨rfl, rfl, ?_⟩; (clear H; intro w1 H; simp only [List.set] at H); go_frame) | ((with_reducible refine Hp.str H ?_); refine ⟨rfl, ?_⟩; refine ⟨_, s_look rfl, ?_⟩; refine ⟨_, _, rfl, _, rfl, rfl, ?_⟩; ((repeat ((fail_if_success refine ⟨_, _, _, .z, ?_⟩); refine hs ?_)); refine ⟨_, _, _, .z, ?_⟩); refine ⟨rfl, _, rfl, _, rfl, Nat.le_of_ble_eq_true rfl, ?_⟩; (clear H; intro w1 H; simp only [List.set] at H); go_frame) | ((with_reducible refine Hp.bdl H ?_); (fail); go_frame) | ((with_reducible refine (hnone_made gh s.n _ (H.c 0 rfl 0 rfl) hn0).mono ?_); rintro _ w1 ⟨rfl, hb⟩; replace H := H.call hb; replace hr := hr.below hb; clear hb) | ((with_reducible refine (pfits_v hf _).mono ?_); rintro _ w1 ⟨rfl, hb⟩; replace H := H.call hb; replace hr := hr.below hb; clear hb))
  go_ret
  refine ⟨A', c', rfl, ?_⟩
  have e1 : (s.put k ⟨A', c', l⟩).es = putI k (.slice A' l.length c') s.cl s.es := putM_es k ⟨A', c', l⟩ s.cl s.ms
  have e2 : (s.put k ⟨A', c', l⟩).cl = putC k s.cl s.es := (putC_es k s.cl s.ms).symm
  have H5 : Hp w0 w4 ((.bytes A' c' l :: gmI gm (s.put k ⟨A', c', l⟩) :: L) ++ [ghI gh gm s]) := by
    unfold gmI
    rw [e1, e2]
    exact H4
  exact (H5.perm (List.perm_append_singleton _ _)).perm ((List.Perm.swap _ _ _).cons _)
end Go.Proofs.Ytanpglhpmfdnmaa
