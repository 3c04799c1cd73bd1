/-
  sextonref12.Split: the walk.
-/
import Derived.Test.YtanpglhpmfdnmaaChkM
namespace Go.Proofs.Ytanpglhpmfdnmaa
open Go.RowKit
set_option linter.unusedVariables false
set_option linter.unusedSimpArgs false
theorem LL_sl : Try.prog.underlying 61 = some (.slice 22) := Try.underlying61
theorem chC_C (A : Option Addr) (c : Nat) (l : List UInt8) : [Value.slice A l.length c] = chC ⟨A, c, l⟩ := rfl
/-- pieces so far -/
def spK (l : List UInt8) (k : Nat) : List (List UInt8) := (List.range k).map fun i => (l.drop (80 * i)).take 80
theorem spK_succ (l : List UInt8) (k : Nat) : spK l (k + 1) = spK l k ++ [(l.drop (80 * k)).take 80] := by unfold spK; rw [List.range_succ, List.map_append]; rfl
theorem spK_spl (l : List UInt8) : spK l (nCh l.length) = spl l := rfl
/-- rows of bytes, one more behind: what append has made of them -/
theorem Hp.chSnoc {w w1 : World} {A' A2 : Option Addr} {c' c2 g : Nat} {e2 : TypeId} {vs : List Value} {l : List UInt8} {chs : List Ch}
    (H : Hp w w1 (.blk g e2 vs :: .bytes A2 c2 l :: .own 22 1 A' (chs.length + 1) c' (rowsC chC chs ++ [.slice A2 l.length c2]) :: chs.map Ch.item)) : Hp w w1 (.rows 22 1 chC A' c' (chs ++ [Ch.mk A2 c2 l]) :: (chs ++ [Ch.mk A2 c2 l]).map Ch.item) := by
  have H2 := H.tail
  have H3 := H2.perm (List.perm_append_singleton _ _).symm
  show Hp w w1 (.own 22 1 A' (chs ++ [Ch.mk A2 c2 l]).length c' (rowsC chC (chs ++ [Ch.mk A2 c2 l])) :: (chs ++ [Ch.mk A2 c2 l]).map Ch.item)
  rw [List.map_append, rowsC_snoc, List.length_append]
  exact H3
set_option maxHeartbeats 1000000 in
theorem rsplit_no (A : Option Addr) (c : Nat) (l : List UInt8) (w : World) (hg : decide ((640 : Int) < l.length) = true) : Calls Try.prog 31 #[.slice A l.length c] w (RetCh w [] 3) := by
  have H := (Hp.nil w).nilRow 22 1
  go_enter Try.func31, Try.ntmps31
  go_wp2_with (first | ((with_reducible refine Hp.box H ?_); (first | refine ⟨rfl, [.pointer _], rfl, ?_⟩ | refine ⟨rfl, [.int _ _], rfl, ?_⟩ | refine ⟨rfl, [.slice _ _ _], rfl, ?_⟩ | refine ⟨rfl, [.bool _], rfl, ?_⟩ | refine ⟨rfl, [.string _], rfl, ?_⟩ | refine ⟨rfl, _, rfl, ?_⟩); (clear H; intro g1 w1 H); go_frame) | ((with_reducible refine Hp.allo H ?_); refine ⟨rfl, ?_⟩; refine ⟨_, z_look rfl, ?_⟩; (clear H; intro g1 w1 H); go_frame) | ((with_reducible refine Hp.ld H ?_); refine ⟨rfl, ?_⟩; refine ⟨c_look rfl, ?_⟩; refine ⟨_, _, rfl, ?_⟩; ((repeat ((fail_if_success refine ⟨_, _, _, .z, ?_⟩); refine hs ?_)); refine ⟨_, _, _, .z, ?_⟩); refine ⟨_, rfl, ?_⟩; go_frame) | ((with_reducible refine Hp.lda H ?_); refine ⟨rfl, by kernel_rfl, ?_⟩; refine ⟨_, s_look rfl, ?_⟩; refine ⟨_, rfl, ?_⟩; ((repeat ((fail_if_success refine ⟨_, _, _, .z, ?_⟩); refine hs ?_)); refine ⟨_, _, _, .z, ?_⟩); refine ⟨rfl, ?_⟩; go_frame) | ((with_reducible refine Hp.lds H ?_); refine ⟨rfl, by kernel_rfl, ?_⟩; refine ⟨_, s_look rfl, ?_⟩; refine ⟨_, _, rfl, ?_⟩; ((repeat ((fail_if_success refine ⟨_, _, _, .z, ?_⟩); refine hs ?_)); refine ⟨_, _, _, .z, ?_⟩); (first | refine ⟨[_, _], rfl, rfl, ?_⟩ | refine ⟨[_, _, _, _], rfl, rfl, ?_⟩ | refine ⟨[_, _, _, _, _, _, _], rfl, rfl, ?_⟩ | refine ⟨[_, _, _], rfl, rfl, ?_⟩ | (fail)); go_frame) | ((with_reducible refine Hp.sto H ?_); refine ⟨rfl, ?_⟩; refine ⟨c_look rfl, ?_⟩; refine ⟨_, _, rfl, ?_⟩; ((repeat ((fail_if_success refine ⟨_, _, _, .z, ?_⟩); refine hs ?_)); refine ⟨_, _, _, .z, ?_⟩); refine ⟨⟨_, rfl⟩, rfl, ?_⟩; (clear H; intro w1 H; simp only [List.set] at H); go_frame) | ((with_reducible refine Hp.sta H ?_); refine ⟨rfl, ?_⟩; refine ⟨_, s_look rfl, ?_⟩; refine ⟨_, rfl, _, rfl, rfl, ?_⟩; ((repeat ((fail_if_success refine ⟨_, _, _, .z, ?_⟩); refine hs ?_)); refine ⟨_, _, _, .z, ?_⟩); refine ⟨rfl, rfl, ?_⟩; (clear H; intro w1 H; simp only [List.set] at H); go_frame) | ((with_reducible refine Hp.str H ?_); refine ⟨rfl, ?_⟩; refine ⟨_, s_look rfl, ?_⟩; refine ⟨_, _, rfl, _, rfl, rfl, ?_⟩; ((repeat ((fail_if_success refine ⟨_, _, _, .z, ?_⟩); refine hs ?_)); refine ⟨_, _, _, .z, ?_⟩); refine ⟨rfl, _, rfl, _, rfl, Nat.le_of_ble_eq_true rfl, ?_⟩; (clear H; intro w1 H; simp only [List.set] at H); go_frame) | ((with_reducible refine Hp.bdl H ?_); (fail); go_frame) | (fail))
  go_ret2
  exact ⟨none, 0, [], rfl, rfl, H⟩
set_option maxRecDepth 100000 in
set_option maxHeartbeats 4000000 in
theorem rsplit_yes (A : Option Addr) (c : Nat) (l : List UInt8) (w : World) (hr : Rd w A l) (hc : l.length ≤ c) (hm : c ≤ maxLen) (hg : decide ((640 : Int) < l.length) = false) : Calls Try.prog 31 #[.slice A l.length c] w (RetCh w (spl l) 0) := by
  have H := (Hp.nil w).nilRow 22 1
  have hl : l.length ≤ 640 := by have := of_decide_eq_false hg; omega
  unfold maxLen at hm
  have HR := True.intro
  have HXL := True.intro
  have HXN := True.intro
  have X := True.intro
  have hql := True.intro
  go_enter Try.func31, Try.ntmps31
  go_wp2_with (first | ((with_reducible refine Hp.box H ?_); (first | refine ⟨rfl, [.pointer _], rfl, ?_⟩ | refine ⟨rfl, [.int _ _], rfl, ?_⟩ | refine ⟨rfl, [.slice _ _ _], rfl, ?_⟩ | refine ⟨rfl, [.bool _], rfl, ?_⟩ | refine ⟨rfl, [.string _], rfl, ?_⟩ | refine ⟨rfl, _, rfl, ?_⟩); (clear H; intro g1 w1 H); go_frame) | ((with_reducible refine Hp.allo H ?_); refine ⟨rfl, ?_⟩; refine ⟨_, z_look rfl, ?_⟩; (clear H; intro g1 w1 H); go_frame) | ((with_reducible refine Hp.ld H ?_); refine ⟨rfl, ?_⟩; refine ⟨c_look rfl, ?_⟩; refine ⟨_, _, rfl, ?_⟩; ((repeat ((fail_if_success refine ⟨_, _, _, .z, ?_⟩); refine hs ?_)); refine ⟨_, _, _, .z, ?_⟩); refine ⟨_, rfl, ?_⟩; go_frame) | ((with_reducible refine Hp.lda H ?_); refine ⟨rfl, by kernel_rfl, ?_⟩; refine ⟨_, s_look rfl, ?_⟩; refine ⟨_, rfl, ?_⟩; ((repeat ((fail_if_success refine ⟨_, _, _, .z, ?_⟩); refine hs ?_)); refine ⟨_, _, _, .z, ?_⟩); refine ⟨rfl, ?_⟩; go_frame) | ((with_reducible refine Hp.lds H ?_); refine ⟨rfl, by kernel_rfl, ?_⟩; refine ⟨_, s_look rfl, ?_⟩; refine ⟨_, _, rfl, ?_⟩; ((repeat ((fail_if_success refine ⟨_, _, _, .z, ?_⟩); refine hs ?_)); refine ⟨_, _, _, .z, ?_⟩); (first | refine ⟨[_, _], rfl, rfl, ?_⟩ | refine ⟨[_, _, _, _], rfl, rfl, ?_⟩ | refine ⟨[_, _, _, _, _, _, _], rfl, rfl, ?_⟩ | refine ⟨[_, _, _], rfl, rfl, ?_⟩ | (fail)); go_frame) | ((with_reducible refine Hp.sto H ?_); refine ⟨rfl, ?_⟩; refine ⟨c_look rfl, ?_⟩; refine ⟨_, _, rfl, ?_⟩; ((repeat ((fail_if_success refine ⟨_, _, _, .z, ?_⟩); refine hs ?_)); refine ⟨_, _, _, .z, ?_⟩); refine ⟨⟨_, rfl⟩, rfl, ?_⟩; (clear H; intro w1 H; simp only [List.set] at H); go_frame) | ((with_reducible refine Hp.sta H ?_); refine ⟨rfl, ?_⟩; refine ⟨_, s_look rfl, ?_⟩; refine ⟨_, rfl, _, rfl, rfl, ?_⟩; ((repeat ((fail_if_success refine ⟨_, _, _, .z, ?_⟩); refine hs ?_)); refine ⟨_, _, _, .z, ?_⟩); refine ⟨rfl, rfl, ?_⟩; (clear H; intro w1 H; simp only [List.set] at H); go_frame) | ((with_reducible refine Hp.str H ?_); refine ⟨rfl, ?_⟩; refine ⟨_, s_look rfl, ?_⟩; refine ⟨_, _, rfl, _, rfl, rfl, ?_⟩; ((repeat ((fail_if_success refine ⟨_, _, _, .z, ?_⟩); refine hs ?_)); refine ⟨_, _, _, .z, ?_⟩); refine ⟨rfl, _, rfl, _, rfl, Nat.le_of_ble_eq_true rfl, ?_⟩; (clear H; intro w1 H; simp only [List.set] at H); go_frame) | ((with_reducible refine Hp.bdl H ?_); (fail); go_frame) | ((with_reducible refine (copy_n _ _ X _ _ (HR.out.below H.below) HXL.out (by have := HXN.out; omega)).mono ?_); rintro _ w1 ⟨A1, c1, rfl, hown, hb⟩; replace H := H.callOwn hb hown; clear hb hown) | ((with_reducible refine Hp.bslc H LL_sl ll_i1 ?_); refine ⟨rfl, _, rfl, rfl, ?_⟩; (clear H; intro g1 w1 H); go_frame) | (at_builtin; (with_reducible refine Hp.wlAppRow H LL_sl ll_info rfl rfl rfl ?_); refine ⟨2, _, _, _, _, rfl, rfl, 0, _, _, _, _, rfl, rfl, rfl, ch_one ⟨A1, c1, X⟩, hql, ?_⟩; (clear H; intro A3 c3 w1 H); simp only [List.set_cons_succ, List.set_cons_zero] at H))
  go_loopw [4, 5, 6] (fun out at_ _ wr => ∃ (k a : Nat) (A' : Option Addr) (c' : Nat) (chs : List Ch), k ≤ nCh l.length ∧ a = 80 * k ∧ at_ = .int .i64 a ∧ out = .slice A' chs.length c' ∧ chs.map (·.l) = spK l k ∧ Hp w wr (.rows 22 1 chC A' c' chs :: chs.map Ch.item)) (fun _ i _ _ => 720 - (intOf i).toNat)
  case atStart => exact ⟨0, 0, none, 0, [], Nat.zero_le _, rfl, rfl, rfl, rfl, H⟩
  case round =>
    clear H
    obtain ⟨k, a, A', c', chs, hk, hak, rfl, rfl, hch, H⟩ := hrel
    have hcl : chs.length = k := by have := congrArg List.length hch; simpa [spK] using this
    have hql : chs.length ≤ 1000000 := by have := nCh_le hl; omega
    have hcs := nCh_cases l.length
    by_cases hlt : k < nCh l.length
    · have ha : a ≤ l.length := by omega
      have HK := Lib.hid hch
      have HA := Lib.hid hak
      obtain ⟨m, hmm, hme⟩ : ∃ m, a + m ≤ l.length ∧ (l.drop a).take 80 = (l.drop a).take m ∧ (m = 80 ∨ (l.length < a + 80 ∧ m = l.length - a)) := by
        by_cases he : l.length < a + 80
        · refine ⟨l.length - a, by omega, ?_, (.inr ⟨he, rfl⟩)⟩
          rw [List.take_of_length_le (by simp; omega), List.take_of_length_le (by simp)]
        · exact ⟨80, by omega, rfl, .inl rfl⟩
      obtain ⟨hme, hm2⟩ := hme
      obtain ⟨X, hX⟩ : ∃ X, (l.drop a).take m = X := ⟨_, rfl⟩
      have hXl : X.length = m := by rw [← hX]; simp; omega
      have HE : Hid ((l.drop (80 * k)).take 80 = X) := Lib.hid (by rw [← hak, hme, hX])
      have HXL : Hid (X.length ≤ 140737488355328) := Lib.hid (by omega)
      have HXN := Lib.hid hXl.symm
      have hR1 := fun e => hr.slice_eq a m c hmm hc e
      have hR2 := fun e => hr.slice_ne a m c hmm hc e
      rw [hX] at hR1 hR2
      have d1 : (decide (a < l.length) = true ∧ True) ∨ (decide (a < l.length) = false ∧ a = 0) := by
        by_cases h : a < l.length
        · exact .inl ⟨decide_eq_true (by omega), trivial⟩
        · exact .inr ⟨decide_eq_false (by omega), by omega⟩
      clear hX hme hXl hr hch hak hcl hk hcs
      have HR1 := Lib.hid hR1
      have HR2 := Lib.hid hR2
      clear hR1 hR2
      rcases d1 with ⟨d1, _⟩ | ⟨d1, rfl⟩
      · rcases hm2 with rfl | ⟨d2, rfl⟩
        · have hca : ¬ c = a := by omega
          have HR := Lib.hid (HR2.out hca)
          clear HR1 HR2
          go_wp2_with (first | ((with_reducible refine Hp.box H ?_); (first | refine ⟨rfl, [.pointer _], rfl, ?_⟩ | refine ⟨rfl, [.int _ _], rfl, ?_⟩ | refine ⟨rfl, [.slice _ _ _], rfl, ?_⟩ | refine ⟨rfl, [.bool _], rfl, ?_⟩ | refine ⟨rfl, [.string _], rfl, ?_⟩ | refine ⟨rfl, _, rfl, ?_⟩); (clear H; intro g1 w1 H); go_frame) | ((with_reducible refine Hp.allo H ?_); refine ⟨rfl, ?_⟩; refine ⟨_, z_look rfl, ?_⟩; (clear H; intro g1 w1 H); go_frame) | ((with_reducible refine Hp.ld H ?_); refine ⟨rfl, ?_⟩; refine ⟨c_look rfl, ?_⟩; refine ⟨_, _, rfl, ?_⟩; ((repeat ((fail_if_success refine ⟨_, _, _, .z, ?_⟩); refine hs ?_)); refine ⟨_, _, _, .z, ?_⟩); refine ⟨_, rfl, ?_⟩; go_frame) | ((with_reducible refine Hp.lda H ?_); refine ⟨rfl, by kernel_rfl, ?_⟩; refine ⟨_, s_look rfl, ?_⟩; refine ⟨_, rfl, ?_⟩; ((repeat ((fail_if_success refine ⟨_, _, _, .z, ?_⟩); refine hs ?_)); refine ⟨_, _, _, .z, ?_⟩); refine ⟨rfl, ?_⟩; go_frame) | ((with_reducible refine Hp.lds H ?_); refine ⟨rfl, by kernel_rfl, ?_⟩; refine ⟨_, s_look rfl, ?_⟩; refine ⟨_, _, rfl, ?_⟩; ((repeat ((fail_if_success refine ⟨_, _, _, .z, ?_⟩); refine hs ?_)); refine ⟨_, _, _, .z, ?_⟩); (first | refine ⟨[_, _], rfl, rfl, ?_⟩ | refine ⟨[_, _, _, _], rfl, rfl, ?_⟩ | refine ⟨[_, _, _, _, _, _, _], rfl, rfl, ?_⟩ | refine ⟨[_, _, _], rfl, rfl, ?_⟩ | (fail)); go_frame) | ((with_reducible refine Hp.sto H ?_); refine ⟨rfl, ?_⟩; refine ⟨c_look rfl, ?_⟩; refine ⟨_, _, rfl, ?_⟩; ((repeat ((fail_if_success refine ⟨_, _, _, .z, ?_⟩); refine hs ?_)); refine ⟨_, _, _, .z, ?_⟩); refine ⟨⟨_, rfl⟩, rfl, ?_⟩; (clear H; intro w1 H; simp only [List.set] at H); go_frame) | ((with_reducible refine Hp.sta H ?_); refine ⟨rfl, ?_⟩; refine ⟨_, s_look rfl, ?_⟩; refine ⟨_, rfl, _, rfl, rfl, ?_⟩; ((repeat ((fail_if_success refine ⟨_, _, _, .z, ?_⟩); refine hs ?_)); refine ⟨_, _, _, .z, ?_⟩); refine ⟨rfl, rfl, ?_⟩; (clear H; intro w1 H; simp only [List.set] at H); go_frame) | ((with_reducible refine Hp.str H ?_); refine ⟨rfl, ?_⟩; refine ⟨_, s_look rfl, ?_⟩; refine ⟨_, _, rfl, _, rfl, rfl, ?_⟩; ((repeat ((fail_if_success refine ⟨_, _, _, .z, ?_⟩); refine hs ?_)); refine ⟨_, _, _, .z, ?_⟩); refine ⟨rfl, _, rfl, _, rfl, Nat.le_of_ble_eq_true rfl, ?_⟩; (clear H; intro w1 H; simp only [List.set] at H); go_frame) | ((with_reducible refine Hp.bdl H ?_); (fail); go_frame) | ((with_reducible refine (copy_n _ _ X _ _ (HR.out.below H.below) HXL.out (by have := HXN.out; omega)).mono ?_); rintro _ w1 ⟨A1, c1, rfl, hown, hb⟩; replace H := H.callOwn hb hown; clear hb hown) | ((with_reducible refine Hp.bslc H LL_sl ll_i1 ?_); refine ⟨rfl, _, rfl, rfl, ?_⟩; (clear H; intro g1 w1 H); go_frame) | (at_builtin; (with_reducible refine Hp.wlAppRow H LL_sl ll_info rfl rfl rfl ?_); refine ⟨2, _, _, _, _, rfl, rfl, 0, _, _, _, _, rfl, rfl, rfl, ch_one ⟨A1, c1, X⟩, hql, ?_⟩; (clear H; intro A3 c3 w1 H); simp only [List.set_cons_succ, List.set_cons_zero] at H))
          go_roundw
          case measure => show 720 - ((a : Int) + 80).toNat < 720 - (a : Int).toNat; omega
          case rel =>
            refine ⟨k + 1, a + 80, A3, c3, chs ++ [Ch.mk A1 c1 X], hlt, ?_, by go_num, ?_, ?_, H.chSnoc⟩
            · have := HA.out; omega
            · rw [List.length_append]; rfl
            · rw [List.map_append, HK.out, spK_succ, HE.out]; rfl
        · by_cases hca : c = a
          · have := of_decide_eq_true d1; omega
          have HR := Lib.hid (HR2.out hca)
          clear HR1 HR2
          go_wp2_with (first | ((with_reducible refine Hp.box H ?_); (first | refine ⟨rfl, [.pointer _], rfl, ?_⟩ | refine ⟨rfl, [.int _ _], rfl, ?_⟩ | refine ⟨rfl, [.slice _ _ _], rfl, ?_⟩ | refine ⟨rfl, [.bool _], rfl, ?_⟩ | refine ⟨rfl, [.string _], rfl, ?_⟩ | refine ⟨rfl, _, rfl, ?_⟩); (clear H; intro g1 w1 H); go_frame) | ((with_reducible refine Hp.allo H ?_); refine ⟨rfl, ?_⟩; refine ⟨_, z_look rfl, ?_⟩; (clear H; intro g1 w1 H); go_frame) | ((with_reducible refine Hp.ld H ?_); refine ⟨rfl, ?_⟩; refine ⟨c_look rfl, ?_⟩; refine ⟨_, _, rfl, ?_⟩; ((repeat ((fail_if_success refine ⟨_, _, _, .z, ?_⟩); refine hs ?_)); refine ⟨_, _, _, .z, ?_⟩); refine ⟨_, rfl, ?_⟩; go_frame) | ((with_reducible refine Hp.lda H ?_); refine ⟨rfl, by kernel_rfl, ?_⟩; refine ⟨_, s_look rfl, ?_⟩; refine ⟨_, rfl, ?_⟩; ((repeat ((fail_if_success refine ⟨_, _, _, .z, ?_⟩); refine hs ?_)); refine ⟨_, _, _, .z, ?_⟩); refine ⟨rfl, ?_⟩; go_frame) | ((with_reducible refine Hp.lds H ?_); refine ⟨rfl, by kernel_rfl, ?_⟩; refine ⟨_, s_look rfl, ?_⟩; refine ⟨_, _, rfl, ?_⟩; ((repeat ((fail_if_success refine ⟨_, _, _, .z, ?_⟩); refine hs ?_)); refine ⟨_, _, _, .z, ?_⟩); (first | refine ⟨[_, _], rfl, rfl, ?_⟩ | refine ⟨[_, _, _, _], rfl, rfl, ?_⟩ | refine ⟨[_, _, _, _, _, _, _], rfl, rfl, ?_⟩ | refine ⟨[_, _, _], rfl, rfl, ?_⟩ | (fail)); go_frame) | ((with_reducible refine Hp.sto H ?_); refine ⟨rfl, ?_⟩; refine ⟨c_look rfl, ?_⟩; refine ⟨_, _, rfl, ?_⟩; ((repeat ((fail_if_success refine ⟨_, _, _, .z, ?_⟩); refine hs ?_)); refine ⟨_, _, _, .z, ?_⟩); refine ⟨⟨_, rfl⟩, rfl, ?_⟩; (clear H; intro w1 H; simp only [List.set] at H); go_frame) | ((with_reducible refine Hp.sta H ?_); refine ⟨rfl, ?_⟩; refine ⟨_, s_look rfl, ?_⟩; refine ⟨_, rfl, _, rfl, rfl, ?_⟩; ((repeat ((fail_if_success refine ⟨_, _, _, .z, ?_⟩); refine hs ?_)); refine ⟨_, _, _, .z, ?_⟩); refine ⟨rfl, rfl, ?_⟩; (clear H; intro w1 H; simp only [List.set] at H); go_frame) | ((with_reducible refine Hp.str H ?_); refine ⟨rfl, ?_⟩; refine ⟨_, s_look rfl, ?_⟩; refine ⟨_, _, rfl, _, rfl, rfl, ?_⟩; ((repeat ((fail_if_success refine ⟨_, _, _, .z, ?_⟩); refine hs ?_)); refine ⟨_, _, _, .z, ?_⟩); refine ⟨rfl, _, rfl, _, rfl, Nat.le_of_ble_eq_true rfl, ?_⟩; (clear H; intro w1 H; simp only [List.set] at H); go_frame) | ((with_reducible refine Hp.bdl H ?_); (fail); go_frame) | ((with_reducible refine (copy_n _ _ X _ _ (HR.out.below H.below) HXL.out (by have := HXN.out; omega)).mono ?_); rintro _ w1 ⟨A1, c1, rfl, hown, hb⟩; replace H := H.callOwn hb hown; clear hb hown) | ((with_reducible refine Hp.bslc H LL_sl ll_i1 ?_); refine ⟨rfl, _, rfl, rfl, ?_⟩; (clear H; intro g1 w1 H); go_frame) | (at_builtin; (with_reducible refine Hp.wlAppRow H LL_sl ll_info rfl rfl rfl ?_); refine ⟨2, _, _, _, _, rfl, rfl, 0, _, _, _, _, rfl, rfl, rfl, ch_one ⟨A1, c1, X⟩, hql, ?_⟩; (clear H; intro A3 c3 w1 H); simp only [List.set_cons_succ, List.set_cons_zero] at H))
          go_roundw
          case measure => show 720 - ((a : Int) + 80).toNat < 720 - (a : Int).toNat; omega
          case rel =>
            refine ⟨k + 1, a + 80, A3, c3, chs ++ [Ch.mk A1 c1 X], hlt, ?_, by go_num, ?_, ?_, H.chSnoc⟩
            · have := HA.out; omega
            · rw [List.length_append]; rfl
            · rw [List.map_append, HK.out, spK_succ, HE.out]; rfl
      · have hl0 := of_decide_eq_false d1
        rcases hm2 with rfl | ⟨d2, rfl⟩
        · omega
        by_cases hca : c = 0
        · have HR := Lib.hid (HR1.out hca)
          clear HR1 HR2
          subst hca
          go_wp2_with (first | ((with_reducible refine Hp.box H ?_); (first | refine ⟨rfl, [.pointer _], rfl, ?_⟩ | refine ⟨rfl, [.int _ _], rfl, ?_⟩ | refine ⟨rfl, [.slice _ _ _], rfl, ?_⟩ | refine ⟨rfl, [.bool _], rfl, ?_⟩ | refine ⟨rfl, [.string _], rfl, ?_⟩ | refine ⟨rfl, _, rfl, ?_⟩); (clear H; intro g1 w1 H); go_frame) | ((with_reducible refine Hp.allo H ?_); refine ⟨rfl, ?_⟩; refine ⟨_, z_look rfl, ?_⟩; (clear H; intro g1 w1 H); go_frame) | ((with_reducible refine Hp.ld H ?_); refine ⟨rfl, ?_⟩; refine ⟨c_look rfl, ?_⟩; refine ⟨_, _, rfl, ?_⟩; ((repeat ((fail_if_success refine ⟨_, _, _, .z, ?_⟩); refine hs ?_)); refine ⟨_, _, _, .z, ?_⟩); refine ⟨_, rfl, ?_⟩; go_frame) | ((with_reducible refine Hp.lda H ?_); refine ⟨rfl, by kernel_rfl, ?_⟩; refine ⟨_, s_look rfl, ?_⟩; refine ⟨_, rfl, ?_⟩; ((repeat ((fail_if_success refine ⟨_, _, _, .z, ?_⟩); refine hs ?_)); refine ⟨_, _, _, .z, ?_⟩); refine ⟨rfl, ?_⟩; go_frame) | ((with_reducible refine Hp.lds H ?_); refine ⟨rfl, by kernel_rfl, ?_⟩; refine ⟨_, s_look rfl, ?_⟩; refine ⟨_, _, rfl, ?_⟩; ((repeat ((fail_if_success refine ⟨_, _, _, .z, ?_⟩); refine hs ?_)); refine ⟨_, _, _, .z, ?_⟩); (first | refine ⟨[_, _], rfl, rfl, ?_⟩ | refine ⟨[_, _, _, _], rfl, rfl, ?_⟩ | refine ⟨[_, _, _, _, _, _, _], rfl, rfl, ?_⟩ | refine ⟨[_, _, _], rfl, rfl, ?_⟩ | (fail)); go_frame) | ((with_reducible refine Hp.sto H ?_); refine ⟨rfl, ?_⟩; refine ⟨c_look rfl, ?_⟩; refine ⟨_, _, rfl, ?_⟩; ((repeat ((fail_if_success refine ⟨_, _, _, .z, ?_⟩); refine hs ?_)); refine ⟨_, _, _, .z, ?_⟩); refine ⟨⟨_, rfl⟩, rfl, ?_⟩; (clear H; intro w1 H; simp only [List.set] at H); go_frame) | ((with_reducible refine Hp.sta H ?_); refine ⟨rfl, ?_⟩; refine ⟨_, s_look rfl, ?_⟩; refine ⟨_, rfl, _, rfl, rfl, ?_⟩; ((repeat ((fail_if_success refine ⟨_, _, _, .z, ?_⟩); refine hs ?_)); refine ⟨_, _, _, .z, ?_⟩); refine ⟨rfl, rfl, ?_⟩; (clear H; intro w1 H; simp only [List.set] at H); go_frame) | ((with_reducible refine Hp.str H ?_); refine ⟨rfl, ?_⟩; refine ⟨_, s_look rfl, ?_⟩; refine ⟨_, _, rfl, _, rfl, rfl, ?_⟩; ((repeat ((fail_if_success refine ⟨_, _, _, .z, ?_⟩); refine hs ?_)); refine ⟨_, _, _, .z, ?_⟩); refine ⟨rfl, _, rfl, _, rfl, Nat.le_of_ble_eq_true rfl, ?_⟩; (clear H; intro w1 H; simp only [List.set] at H); go_frame) | ((with_reducible refine Hp.bdl H ?_); (fail); go_frame) | ((with_reducible refine (copy_n _ _ X _ _ (HR.out.below H.below) HXL.out (by have := HXN.out; omega)).mono ?_); rintro _ w1 ⟨A1, c1, rfl, hown, hb⟩; replace H := H.callOwn hb hown; clear hb hown) | ((with_reducible refine Hp.bslc H LL_sl ll_i1 ?_); refine ⟨rfl, _, rfl, rfl, ?_⟩; (clear H; intro g1 w1 H); go_frame) | (at_builtin; (with_reducible refine Hp.wlAppRow H LL_sl ll_info rfl rfl rfl ?_); refine ⟨2, _, _, _, _, rfl, rfl, 0, _, _, _, _, rfl, rfl, rfl, ch_one ⟨A1, c1, X⟩, hql, ?_⟩; (clear H; intro A3 c3 w1 H); simp only [List.set_cons_succ, List.set_cons_zero] at H))
          go_roundw
          case measure => show 720 - ((0 : Int) + 80).toNat < 720 - (0 : Int).toNat; omega
          case rel =>
            refine ⟨k + 1, 80, A3, c3, chs ++ [Ch.mk A1 c1 X], hlt, ?_, by go_num, ?_, ?_, H.chSnoc⟩
            · have := HA.out; omega
            · rw [List.length_append]; rfl
            · rw [List.map_append, HK.out, spK_succ, HE.out]; rfl
        · have HR : Hid (Rd w A X) := Lib.hid (by rw [List.eq_nil_of_length_eq_zero (show X.length = 0 by have := HXN.out; omega)]; exact Rd.nil w A)
          clear HR1 HR2
          go_wp2_with (first | ((with_reducible refine Hp.box H ?_); (first | refine ⟨rfl, [.pointer _], rfl, ?_⟩ | refine ⟨rfl, [.int _ _], rfl, ?_⟩ | refine ⟨rfl, [.slice _ _ _], rfl, ?_⟩ | refine ⟨rfl, [.bool _], rfl, ?_⟩ | refine ⟨rfl, [.string _], rfl, ?_⟩ | refine ⟨rfl, _, rfl, ?_⟩); (clear H; intro g1 w1 H); go_frame) | ((with_reducible refine Hp.allo H ?_); refine ⟨rfl, ?_⟩; refine ⟨_, z_look rfl, ?_⟩; (clear H; intro g1 w1 H); go_frame) | ((with_reducible refine Hp.ld H ?_); refine ⟨rfl, ?_⟩; refine ⟨c_look rfl, ?_⟩; refine ⟨_, _, rfl, ?_⟩; ((repeat ((fail_if_success refine ⟨_, _, _, .z, ?_⟩); refine hs ?_)); refine ⟨_, _, _, .z, ?_⟩); refine ⟨_, rfl, ?_⟩; go_frame) | ((with_reducible refine Hp.lda H ?_); refine ⟨rfl, by kernel_rfl, ?_⟩; refine ⟨_, s_look rfl, ?_⟩; refine ⟨_, rfl, ?_⟩; ((repeat ((fail_if_success refine ⟨_, _, _, .z, ?_⟩); refine hs ?_)); refine ⟨_, _, _, .z, ?_⟩); refine ⟨rfl, ?_⟩; go_frame) | ((with_reducible refine Hp.lds H ?_); refine ⟨rfl, by kernel_rfl, ?_⟩; refine ⟨_, s_look rfl, ?_⟩; refine ⟨_, _, rfl, ?_⟩; ((repeat ((fail_if_success refine ⟨_, _, _, .z, ?_⟩); refine hs ?_)); refine ⟨_, _, _, .z, ?_⟩); (first | refine ⟨[_, _], rfl, rfl, ?_⟩ | refine ⟨[_, _, _, _], rfl, rfl, ?_⟩ | refine ⟨[_, _, _, _, _, _, _], rfl, rfl, ?_⟩ | refine ⟨[_, _, _], rfl, rfl, ?_⟩ | (fail)); go_frame) | ((with_reducible refine Hp.sto H ?_); refine ⟨rfl, ?_⟩; refine ⟨c_look rfl, ?_⟩; refine ⟨_, _, rfl, ?_⟩; ((repeat ((fail_if_success refine ⟨_, _, _, .z, ?_⟩); refine hs ?_)); refine ⟨_, _, _, .z, ?_⟩); refine ⟨⟨_, rfl⟩, rfl, ?_⟩; (clear H; intro w1 H; simp only [List.set] at H); go_frame) | ((with_reducible refine Hp.sta H ?_); refine ⟨rfl, ?_⟩; refine ⟨_, s_look rfl, ?_⟩; refine ⟨_, rfl, _, rfl, rfl, ?_⟩; ((repeat ((fail_if_success refine ⟨_, _, _, .z, ?_⟩); refine hs ?_)); refine ⟨_, _, _, .z, ?_⟩); refine ⟨rfl, rfl, ?_⟩; (clear H; intro w1 H; simp only [List.set] at H); go_frame) | ((with_reducible refine Hp.str H ?_); refine ⟨rfl, ?_⟩; refine ⟨_, s_look rfl, ?_⟩; refine ⟨_, _, rfl, _, rfl, rfl, ?_⟩; ((repeat ((fail_if_success refine ⟨_, _, _, .z, ?_⟩); refine hs ?_)); refine ⟨_, _, _, .z, ?_⟩); refine ⟨rfl, _, rfl, _, rfl, Nat.le_of_ble_eq_true rfl, ?_⟩; (clear H; intro w1 H; simp only [List.set] at H); go_frame) | ((with_reducible refine Hp.bdl H ?_); (fail); go_frame) | ((with_reducible refine (copy_n _ _ X _ _ (HR.out.below H.below) HXL.out (by have := HXN.out; omega)).mono ?_); rintro _ w1 ⟨A1, c1, rfl, hown, hb⟩; replace H := H.callOwn hb hown; clear hb hown) | ((with_reducible refine Hp.bslc H LL_sl ll_i1 ?_); refine ⟨rfl, _, rfl, rfl, ?_⟩; (clear H; intro g1 w1 H); go_frame) | (at_builtin; (with_reducible refine Hp.wlAppRow H LL_sl ll_info rfl rfl rfl ?_); refine ⟨2, _, _, _, _, rfl, rfl, 0, _, _, _, _, rfl, rfl, rfl, ch_one ⟨A1, c1, X⟩, hql, ?_⟩; (clear H; intro A3 c3 w1 H); simp only [List.set_cons_succ, List.set_cons_zero] at H))
          go_roundw
          case measure => show 720 - ((0 : Int) + 80).toNat < 720 - (0 : Int).toNat; omega
          case rel =>
            refine ⟨k + 1, 80, A3, c3, chs ++ [Ch.mk A1 c1 X], hlt, ?_, by go_num, ?_, ?_, H.chSnoc⟩
            · have := HA.out; omega
            · rw [List.length_append]; rfl
            · rw [List.map_append, HK.out, spK_succ, HE.out]; rfl
    · have d1 : decide (a < l.length) = false := decide_eq_false (by omega)
      have d2 : ((a : Int) == 0) = false := by rw [beq_eq_false_iff_ne]; omega
      obtain rfl : k = nCh l.length := by omega
      have HK := Lib.hid hch
      clear hch hcs hcl hlt hk hak
      go_wp2_with (first | ((with_reducible refine Hp.box H ?_); (first | refine ⟨rfl, [.pointer _], rfl, ?_⟩ | refine ⟨rfl, [.int _ _], rfl, ?_⟩ | refine ⟨rfl, [.slice _ _ _], rfl, ?_⟩ | refine ⟨rfl, [.bool _], rfl, ?_⟩ | refine ⟨rfl, [.string _], rfl, ?_⟩ | refine ⟨rfl, _, rfl, ?_⟩); (clear H; intro g1 w1 H); go_frame) | ((with_reducible refine Hp.allo H ?_); refine ⟨rfl, ?_⟩; refine ⟨_, z_look rfl, ?_⟩; (clear H; intro g1 w1 H); go_frame) | ((with_reducible refine Hp.ld H ?_); refine ⟨rfl, ?_⟩; refine ⟨c_look rfl, ?_⟩; refine ⟨_, _, rfl, ?_⟩; ((repeat ((fail_if_success refine ⟨_, _, _, .z, ?_⟩); refine hs ?_)); refine ⟨_, _, _, .z, ?_⟩); refine ⟨_, rfl, ?_⟩; go_frame) | ((with_reducible refine Hp.lda H ?_); refine ⟨rfl, by kernel_rfl, ?_⟩; refine ⟨_, s_look rfl, ?_⟩; refine ⟨_, rfl, ?_⟩; ((repeat ((fail_if_success refine ⟨_, _, _, .z, ?_⟩); refine hs ?_)); refine ⟨_, _, _, .z, ?_⟩); refine ⟨rfl, ?_⟩; go_frame) | ((with_reducible refine Hp.lds H ?_); refine ⟨rfl, by kernel_rfl, ?_⟩; refine ⟨_, s_look rfl, ?_⟩; refine ⟨_, _, rfl, ?_⟩; ((repeat ((fail_if_success refine ⟨_, _, _, .z, ?_⟩); refine hs ?_)); refine ⟨_, _, _, .z, ?_⟩); (first | refine ⟨[_, _], rfl, rfl, ?_⟩ | refine ⟨[_, _, _, _], rfl, rfl, ?_⟩ | refine ⟨[_, _, _, _, _, _, _], rfl, rfl, ?_⟩ | refine ⟨[_, _, _], rfl, rfl, ?_⟩ | (fail)); go_frame) | ((with_reducible refine Hp.sto H ?_); refine ⟨rfl, ?_⟩; refine ⟨c_look rfl, ?_⟩; refine ⟨_, _, rfl, ?_⟩; ((repeat ((fail_if_success refine ⟨_, _, _, .z, ?_⟩); refine hs ?_)); refine ⟨_, _, _, .z, ?_⟩); refine ⟨⟨_, rfl⟩, rfl, ?_⟩; (clear H; intro w1 H; simp only [List.set] at H); go_frame) | ((with_reducible refine Hp.sta H ?_); refine ⟨rfl, ?_⟩; refine ⟨_, s_look rfl, ?_⟩; refine ⟨_, rfl, _, rfl, rfl, ?_⟩; ((repeat ((fail_if_success refine ⟨_, _, _, .z, ?_⟩); refine hs ?_)); refine ⟨_, _, _, .z, ?_⟩); refine ⟨rfl, rfl, ?_⟩; (clear H; intro w1 H; simp only [List.set] at H); go_frame) | ((with_reducible refine Hp.str H ?_); refine ⟨rfl, ?_⟩; refine ⟨_, s_look rfl, ?_⟩; refine ⟨_, _, rfl, _, rfl, rfl, ?_⟩; ((repeat ((fail_if_success refine ⟨_, _, _, .z, ?_⟩); refine hs ?_)); refine ⟨_, _, _, .z, ?_⟩); refine ⟨rfl, _, rfl, _, rfl, Nat.le_of_ble_eq_true rfl, ?_⟩; (clear H; intro w1 H; simp only [List.set] at H); go_frame) | ((with_reducible refine Hp.bdl H ?_); (fail); go_frame) | ((with_reducible refine (copy_n _ _ X _ _ (HR.out.below H.below) HXL.out (by have := HXN.out; omega)).mono ?_); rintro _ w1 ⟨A1, c1, rfl, hown, hb⟩; replace H := H.callOwn hb hown; clear hb hown) | ((with_reducible refine Hp.bslc H LL_sl ll_i1 ?_); refine ⟨rfl, _, rfl, rfl, ?_⟩; (clear H; intro g1 w1 H); go_frame) | (at_builtin; (with_reducible refine Hp.wlAppRow H LL_sl ll_info rfl rfl rfl ?_); refine ⟨2, _, _, _, _, rfl, rfl, 0, _, _, _, _, rfl, rfl, rfl, ch_one ⟨A1, c1, X⟩, hql, ?_⟩; (clear H; intro A3 c3 w1 H); simp only [List.set_cons_succ, List.set_cons_zero] at H))
      go_ret2
      exact ⟨A', c', chs, rfl, HK.out.trans (spK_spl l), H⟩
end Go.Proofs.Ytanpglhpmfdnmaa
