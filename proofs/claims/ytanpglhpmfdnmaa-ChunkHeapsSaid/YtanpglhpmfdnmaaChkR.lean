/-
  THE WALK OF THE LAW ChunkAnyOrder.
-/
import Derived.Test.YtanpglhpmfdnmaaChkQ
namespace Go.Proofs.Ytanpglhpmfdnmaa
open Go.RowKit
set_option linter.unusedVariables false
set_option linter.unusedSimpArgs false
theorem hwhole_v {gh gm : Nat} {s : Hs} {L : List UInt8} {E : Int} (hL : s.whL = L) (hE : s.whE = E) (w : World) (hM : HM w gh gm s) (hn : 0 < s.n) (hn8 : s.n ≤ 1000) : Calls Try.prog 17 #[.pointer (some ⟨gh, 0, none⟩)] w (RetBI w L E) := by
  subst hL hE
  exact hwhole_any gh gm s w hM hn hn8
theorem hmiss_v {gh gm : Nat} {s : Hs} {l : List Int} (hl : s.miss s.n = l) (w : World) (hM : HM w gh gm s) (hn : 0 < s.n) (hn8 : s.n ≤ 1000) : Calls Try.prog 20 #[.pointer (some ⟨gh, 0, none⟩)] w (RetInts w l) := by
  subst hl
  exact hmiss_any gh gm s w hM hn hn8
def RetN (w : World) (n : Nat) (e : Ending) (w' : World) : Prop := ∃ A c, e = .returned (.slice A n c) ∧ Below w.heap.size w w'
theorem hmiss_n {gh gm : Nat} {s : Hs} {n : Nat} (hl : (s.miss s.n).length = n) (w : World) (hM : HM w gh gm s) (hn : 0 < s.n) (hn8 : s.n ≤ 1000) : Calls Try.prog 20 #[.pointer (some ⟨gh, 0, none⟩)] w (RetN w n) := by
  subst hl
  refine (hmiss_any gh gm s w hM hn hn8).mono ?_
  rintro e w' ⟨A, c, rfl, H⟩
  exact ⟨A, c, rfl, H.below⟩
/-- the state of the loop that puts -/
def SAo (w2 : World) (gh gm gp : Nat) (sl : List (List UInt8)) (M : Nat) (v : Value) (wr : World) : Prop := ∃ (i : Nat) (s : Hs) (Lx : List Item), i ≤ M + sl.length ∧ v = .int .i64 i ∧ HOk s sl Lx ∧ (∀ j : Nat, j + M < i → (s.get (j : Int)).isSome = true) ∧ Hp w2 wr (ghI gh gm s :: gmI gm s :: .blk gp 4 (pbO s) :: Lx)
/-- the one that counts -/
def SCo (w2 : World) (L : List Item) (s : Hs) (N : Nat) (m v : Value) (wr : World) : Prop := ∃ j : Nat, j ≤ N ∧ v = .int .i64 j ∧ m = .int .i64 (s.miss j).length ∧ Hp w2 wr L
theorem R_of3 {P : Value → Value → World → Prop} {a a' : Value} {b : World} (h : P a a' b) : ∃ R : Value → Value → World → Prop, R = P ∧ R a a' b := ⟨P, rfl, h⟩
set_option maxRecDepth 100000 in
set_option maxHeartbeats 8000000 in
theorem anyOrder_in (A : Option Addr) (c : Nat) (l : List UInt8) (B : Option Addr) (d : Nat) (om : List UInt8) (lost : Int) (w : World) (hr : Rd w A l) (hc : l.length ≤ c) (hm : c ≤ maxLen) (hr2 : Rd w B om) (n0 : -9223372036854775808 ≤ lost) (n1 : lost ≤ 9223372036854775807) :
    Calls Try.prog 9 #[.slice A l.length c, .slice B om.length d, .int .i64 lost] w (RetV w (.bool true)) := by
  have H := Hp.nil w
  cases g1 : decide ((640 : Int) < l.length)
  rotate_left
  · go_enter Try.func9, Try.ntmps9; (first | simp only [List.append_eq, List.cons_append, List.nil_append] | skip); go_wp2_with (first | ((with_reducible refine Hp.box H ?_); (first | refine ⟨rfl, [.pointer _], rfl, ?_⟩ | refine ⟨rfl, [.int _ _], rfl, ?_⟩ | refine ⟨rfl, [.slice _ _ _], rfl, ?_⟩ | refine ⟨rfl, [.bool _], rfl, ?_⟩ | refine ⟨rfl, [.string _], rfl, ?_⟩ | refine ⟨rfl, _, rfl, ?_⟩); (clear H; intro g1 w1 H); go_frame) | ((with_reducible refine Hp.allo H ?_); refine ⟨rfl, ?_⟩; refine ⟨_, z_look rfl, ?_⟩; (clear H; intro g1 w1 H); go_frame) | ((with_reducible refine Hp.ld H ?_); refine ⟨rfl, ?_⟩; refine ⟨c_look rfl, ?_⟩; refine ⟨_, _, rfl, ?_⟩; ((repeat ((fail_if_success refine ⟨_, _, _, .z, ?_⟩); refine hs ?_)); refine ⟨_, _, _, .z, ?_⟩); refine ⟨_, rfl, ?_⟩; go_frame) | ((with_reducible refine Hp.lda H ?_); refine ⟨rfl, by kernel_rfl, ?_⟩; refine ⟨_, s_look rfl, ?_⟩; refine ⟨_, rfl, ?_⟩; ((repeat ((fail_if_success refine ⟨_, _, _, .z, ?_⟩); refine hs ?_)); refine ⟨_, _, _, .z, ?_⟩); refine ⟨rfl, ?_⟩; go_frame) | ((with_reducible refine Hp.lds H ?_); refine ⟨rfl, by kernel_rfl, ?_⟩; refine ⟨_, s_look rfl, ?_⟩; refine ⟨_, _, rfl, ?_⟩; ((repeat ((fail_if_success refine ⟨_, _, _, .z, ?_⟩); refine hs ?_)); refine ⟨_, _, _, .z, ?_⟩); (first | refine ⟨[_, _], rfl, rfl, ?_⟩ | refine ⟨[_, _, _, _], rfl, rfl, ?_⟩ | refine ⟨[_, _, _, _, _, _, _], rfl, rfl, ?_⟩ | refine ⟨[_, _, _], rfl, rfl, ?_⟩ | (fail)); go_frame) | ((with_reducible refine Hp.sto H ?_); refine ⟨rfl, ?_⟩; refine ⟨c_look rfl, ?_⟩; refine ⟨_, _, rfl, ?_⟩; ((repeat ((fail_if_success refine ⟨_, _, _, .z, ?_⟩); refine hs ?_)); refine ⟨_, _, _, .z, ?_⟩); refine ⟨⟨_, rfl⟩, rfl, ?_⟩; (clear H; intro w1 H; simp only [List.set] at H); go_frame) | ((with_reducible refine Hp.sta H ?_); refine ⟨rfl, ?_⟩; refine ⟨_, s_look rfl, ?_⟩; refine ⟨_, rfl, _, rfl, rfl, ?_⟩; ((repeat ((fail_if_success refine ⟨_, _, _, .z, ?_⟩); refine hs ?_)); refine ⟨_, _, _, .z, ?_⟩); refine ⟨rfl, rfl, ?_⟩; (clear H; intro w1 H; simp only [List.set] at H); go_frame) | ((with_reducible refine Hp.str H ?_); refine ⟨rfl, ?_⟩; refine ⟨_, s_look rfl, ?_⟩; refine ⟨_, _, rfl, _, rfl, rfl, ?_⟩; ((repeat ((fail_if_success refine ⟨_, _, _, .z, ?_⟩); refine hs ?_)); refine ⟨_, _, _, .z, ?_⟩); refine ⟨rfl, _, rfl, _, rfl, Nat.le_of_ble_eq_true rfl, ?_⟩; (clear H; intro w1 H; simp only [List.set] at H); go_frame) | ((with_reducible refine Hp.bdl H ?_); (fail); go_frame) | ((with_reducible refine (awake12_any _).mono ?_); rintro _ w1 ⟨rfl, hb⟩; replace H := H.call hb; clear hb) | ((with_reducible refine (split_ls HSL.out A c _ (hr.below H.below) hc hm hl).mono ?_); rintro _ w2 ⟨C, cc, rfl, hRL, hb⟩; have hbw := bt H.below hb; replace H := Hp.nil w2; clear hb) | ((with_reducible refine (hnew_yes sl.length _ hs1 hs8).mono ?_); rintro _ w1 ⟨gh, gm, rfl, HB⟩; replace H := HB.onto H; clear HB; simp only [List.cons_append, List.nil_append] at H) | ((with_reducible refine Hp.mkB H ?_); refine ⟨sl.length, rfl, rfl, by omega, ?_⟩; (clear H; intro gp w1 H); go_frame))
    go_ret
    exact ⟨rfl, H.below⟩
  cases g2 : decide ((60 : Int) < om.length)
  rotate_left
  · go_enter Try.func9, Try.ntmps9; (first | simp only [List.append_eq, List.cons_append, List.nil_append] | skip); go_wp2_with (first | ((with_reducible refine Hp.box H ?_); (first | refine ⟨rfl, [.pointer _], rfl, ?_⟩ | refine ⟨rfl, [.int _ _], rfl, ?_⟩ | refine ⟨rfl, [.slice _ _ _], rfl, ?_⟩ | refine ⟨rfl, [.bool _], rfl, ?_⟩ | refine ⟨rfl, [.string _], rfl, ?_⟩ | refine ⟨rfl, _, rfl, ?_⟩); (clear H; intro g1 w1 H); go_frame) | ((with_reducible refine Hp.allo H ?_); refine ⟨rfl, ?_⟩; refine ⟨_, z_look rfl, ?_⟩; (clear H; intro g1 w1 H); go_frame) | ((with_reducible refine Hp.ld H ?_); refine ⟨rfl, ?_⟩; refine ⟨c_look rfl, ?_⟩; refine ⟨_, _, rfl, ?_⟩; ((repeat ((fail_if_success refine ⟨_, _, _, .z, ?_⟩); refine hs ?_)); refine ⟨_, _, _, .z, ?_⟩); refine ⟨_, rfl, ?_⟩; go_frame) | ((with_reducible refine Hp.lda H ?_); refine ⟨rfl, by kernel_rfl, ?_⟩; refine ⟨_, s_look rfl, ?_⟩; refine ⟨_, rfl, ?_⟩; ((repeat ((fail_if_success refine ⟨_, _, _, .z, ?_⟩); refine hs ?_)); refine ⟨_, _, _, .z, ?_⟩); refine ⟨rfl, ?_⟩; go_frame) | ((with_reducible refine Hp.lds H ?_); refine ⟨rfl, by kernel_rfl, ?_⟩; refine ⟨_, s_look rfl, ?_⟩; refine ⟨_, _, rfl, ?_⟩; ((repeat ((fail_if_success refine ⟨_, _, _, .z, ?_⟩); refine hs ?_)); refine ⟨_, _, _, .z, ?_⟩); (first | refine ⟨[_, _], rfl, rfl, ?_⟩ | refine ⟨[_, _, _, _], rfl, rfl, ?_⟩ | refine ⟨[_, _, _, _, _, _, _], rfl, rfl, ?_⟩ | refine ⟨[_, _, _], rfl, rfl, ?_⟩ | (fail)); go_frame) | ((with_reducible refine Hp.sto H ?_); refine ⟨rfl, ?_⟩; refine ⟨c_look rfl, ?_⟩; refine ⟨_, _, rfl, ?_⟩; ((repeat ((fail_if_success refine ⟨_, _, _, .z, ?_⟩); refine hs ?_)); refine ⟨_, _, _, .z, ?_⟩); refine ⟨⟨_, rfl⟩, rfl, ?_⟩; (clear H; intro w1 H; simp only [List.set] at H); go_frame) | ((with_reducible refine Hp.sta H ?_); refine ⟨rfl, ?_⟩; refine ⟨_, s_look rfl, ?_⟩; refine ⟨_, rfl, _, rfl, rfl, ?_⟩; ((repeat ((fail_if_success refine ⟨_, _, _, .z, ?_⟩); refine hs ?_)); refine ⟨_, _, _, .z, ?_⟩); refine ⟨rfl, rfl, ?_⟩; (clear H; intro w1 H; simp only [List.set] at H); go_frame) | ((with_reducible refine Hp.str H ?_); refine ⟨rfl, ?_⟩; refine ⟨_, s_look rfl, ?_⟩; refine ⟨_, _, rfl, _, rfl, rfl, ?_⟩; ((repeat ((fail_if_success refine ⟨_, _, _, .z, ?_⟩); refine hs ?_)); refine ⟨_, _, _, .z, ?_⟩); refine ⟨rfl, _, rfl, _, rfl, Nat.le_of_ble_eq_true rfl, ?_⟩; (clear H; intro w1 H; simp only [List.set] at H); go_frame) | ((with_reducible refine Hp.bdl H ?_); (fail); go_frame) | ((with_reducible refine (awake12_any _).mono ?_); rintro _ w1 ⟨rfl, hb⟩; replace H := H.call hb; clear hb) | ((with_reducible refine (split_ls HSL.out A c _ (hr.below H.below) hc hm hl).mono ?_); rintro _ w2 ⟨C, cc, rfl, hRL, hb⟩; have hbw := bt H.below hb; replace H := Hp.nil w2; clear hb) | ((with_reducible refine (hnew_yes sl.length _ hs1 hs8).mono ?_); rintro _ w1 ⟨gh, gm, rfl, HB⟩; replace H := HB.onto H; clear HB; simp only [List.cons_append, List.nil_append] at H) | ((with_reducible refine Hp.mkB H ?_); refine ⟨sl.length, rfl, rfl, by omega, ?_⟩; (clear H; intro gp w1 H); go_frame))
    go_ret
    exact ⟨rfl, H.below⟩
  have hl : l.length ≤ 640 := by have := of_decide_eq_false g1; omega
  have ho : om.length ≤ 60 := by have := of_decide_eq_false g2; omega
  have hlm : l.length ≤ maxLen := by omega
  obtain ⟨sl, hsl⟩ : ∃ sl, spl l = sl := ⟨_, rfl⟩
  have hjo : Hid (joB sl = true) := Lib.hid (hsl ▸ spl_jo hl)
  have hfl : Hid (sl.flatten = l) := Lib.hid (hsl ▸ spl_flat l)
  have hs1 : 1 ≤ sl.length := by rw [← hsl, spl_len]; exact nCh_pos _
  have hs8 : sl.length ≤ 8 := by rw [← hsl, spl_len]; exact nCh_le hl
  have hsx : Hid (∀ k (h : k < sl.length), sl[k].length ≤ 1000) := Lib.hid (fun k h => by
    have := (pfB_iff.1 ((joB_iff.1 hjo.out).2 k h)).2.2.2.2.1
    omega)
  have s0 : ((sl.length : Int) == 0) = false := by rw [beq_eq_false_iff_ne]; omega
  have HSL := Lib.hid hsl
  clear hsl
  go_enter Try.func9, Try.ntmps9; (first | simp only [List.append_eq, List.cons_append, List.nil_append] | skip); go_wp2_with (first | ((with_reducible refine Hp.box H ?_); (first | refine ⟨rfl, [.pointer _], rfl, ?_⟩ | refine ⟨rfl, [.int _ _], rfl, ?_⟩ | refine ⟨rfl, [.slice _ _ _], rfl, ?_⟩ | refine ⟨rfl, [.bool _], rfl, ?_⟩ | refine ⟨rfl, [.string _], rfl, ?_⟩ | refine ⟨rfl, _, rfl, ?_⟩); (clear H; intro g1 w1 H); go_frame) | ((with_reducible refine Hp.allo H ?_); refine ⟨rfl, ?_⟩; refine ⟨_, z_look rfl, ?_⟩; (clear H; intro g1 w1 H); go_frame) | ((with_reducible refine Hp.ld H ?_); refine ⟨rfl, ?_⟩; refine ⟨c_look rfl, ?_⟩; refine ⟨_, _, rfl, ?_⟩; ((repeat ((fail_if_success refine ⟨_, _, _, .z, ?_⟩); refine hs ?_)); refine ⟨_, _, _, .z, ?_⟩); refine ⟨_, rfl, ?_⟩; go_frame) | ((with_reducible refine Hp.lda H ?_); refine ⟨rfl, by kernel_rfl, ?_⟩; refine ⟨_, s_look rfl, ?_⟩; refine ⟨_, rfl, ?_⟩; ((repeat ((fail_if_success refine ⟨_, _, _, .z, ?_⟩); refine hs ?_)); refine ⟨_, _, _, .z, ?_⟩); refine ⟨rfl, ?_⟩; go_frame) | ((with_reducible refine Hp.lds H ?_); refine ⟨rfl, by kernel_rfl, ?_⟩; refine ⟨_, s_look rfl, ?_⟩; refine ⟨_, _, rfl, ?_⟩; ((repeat ((fail_if_success refine ⟨_, _, _, .z, ?_⟩); refine hs ?_)); refine ⟨_, _, _, .z, ?_⟩); (first | refine ⟨[_, _], rfl, rfl, ?_⟩ | refine ⟨[_, _, _, _], rfl, rfl, ?_⟩ | refine ⟨[_, _, _, _, _, _, _], rfl, rfl, ?_⟩ | refine ⟨[_, _, _], rfl, rfl, ?_⟩ | (fail)); go_frame) | ((with_reducible refine Hp.sto H ?_); refine ⟨rfl, ?_⟩; refine ⟨c_look rfl, ?_⟩; refine ⟨_, _, rfl, ?_⟩; ((repeat ((fail_if_success refine ⟨_, _, _, .z, ?_⟩); refine hs ?_)); refine ⟨_, _, _, .z, ?_⟩); refine ⟨⟨_, rfl⟩, rfl, ?_⟩; (clear H; intro w1 H; simp only [List.set] at H); go_frame) | ((with_reducible refine Hp.sta H ?_); refine ⟨rfl, ?_⟩; refine ⟨_, s_look rfl, ?_⟩; refine ⟨_, rfl, _, rfl, rfl, ?_⟩; ((repeat ((fail_if_success refine ⟨_, _, _, .z, ?_⟩); refine hs ?_)); refine ⟨_, _, _, .z, ?_⟩); refine ⟨rfl, rfl, ?_⟩; (clear H; intro w1 H; simp only [List.set] at H); go_frame) | ((with_reducible refine Hp.str H ?_); refine ⟨rfl, ?_⟩; refine ⟨_, s_look rfl, ?_⟩; refine ⟨_, _, rfl, _, rfl, rfl, ?_⟩; ((repeat ((fail_if_success refine ⟨_, _, _, .z, ?_⟩); refine hs ?_)); refine ⟨_, _, _, .z, ?_⟩); refine ⟨rfl, _, rfl, _, rfl, Nat.le_of_ble_eq_true rfl, ?_⟩; (clear H; intro w1 H; simp only [List.set] at H); go_frame) | ((with_reducible refine Hp.bdl H ?_); (fail); go_frame) | ((with_reducible refine (awake12_any _).mono ?_); rintro _ w1 ⟨rfl, hb⟩; replace H := H.call hb; clear hb) | ((with_reducible refine (split_ls HSL.out A c _ (hr.below H.below) hc hm hl).mono ?_); rintro _ w2 ⟨C, cc, rfl, hRL, hb⟩; have hbw := bt H.below hb; replace H := Hp.nil w2; clear hb) | ((with_reducible refine (hnew_yes sl.length _ hs1 hs8).mono ?_); rintro _ w1 ⟨gh, gm, rfl, HB⟩; replace H := HB.onto H; clear HB; simp only [List.cons_append, List.nil_append] at H) | ((with_reducible refine Hp.mkB H ?_); refine ⟨sl.length, rfl, rfl, by omega, ?_⟩; (clear H; intro gp w1 H); go_frame))
  replace H : Hp w2 w1 [ghI gh gm ⟨sl.length, [], 0⟩, gmI gm ⟨sl.length, [], 0⟩, .blk gp 4 (List.replicate sl.length (.bool false))] := H.pick [1, 2, 0] (by decide) rfl
  have hat : SAo w2 gh gm gp sl om.length (.int .i64 (0 : Nat)) w1 := ⟨0, ⟨sl.length, [], 0⟩, [], by omega, rfl, HOk.new sl [], fun j h => absurd h (by omega), by rw [pbO_new]; exact H⟩
  obtain ⟨R, hR, hat⟩ := R_of hat
  have hr3 := hr.below hbw
  have hr4 := hr2.below hbw
  clear H hr2
  go_loopw [12, 13, 14, 15, 16, 17] (fun v _ _ _ _ _ wr => R v wr) (fun v _ _ _ _ _ _ => om.length + sl.length - (intOf v).toNat)
  case atStart => exact hat
  case round =>
    clear hat
    rw [hR] at hrel
    obtain ⟨i, s, Lx, hi, rfl, hO, hall, H⟩ := hrel
    have HO := Lib.hid hO
    have hsn : s.n = sl.length := hO.n
    clear hO
    by_cases hlt : i < om.length + sl.length
    · obtain ⟨q, hq, hqv⟩ : ∃ q, q < sl.length ∧ ((i < om.length ∧ ∃ h : i < om.length, ((om[i].toNat : Int).tmod (sl.length : Int)) = (q : Int)) ∨ (¬ i < om.length ∧ (i : Int) - (om.length : Int) = (q : Int) ∧ i = om.length + q)) := by
        by_cases h : i < om.length
        · refine ⟨om[i].toNat % sl.length, Nat.mod_lt _ (by omega), .inl ⟨h, h, ?_⟩⟩
          rw [Int.ofNat_tmod]
        · exact ⟨i - om.length, by omega, .inr ⟨h, by omega, by omega⟩⟩
      have hallq : Hid (∀ j : Nat, j + om.length < i + 1 → (j : Int) = q ∨ (s.get (j : Int)).isSome = true) := Lib.hid (fun j hj => by
        rcases hqv with ⟨h, _⟩ | ⟨h, _, h2⟩
        · omega
        · by_cases e : j = q
          · exact .inl (by omega)
          · exact .inr (hall j (by omega)))
      obtain ⟨b7, o7, rfl, A5, c5, hcell2, hRX⟩ := hRL.at_ hq
      obtain ⟨X, hX⟩ : ∃ X, sl[q] = X := ⟨_, rfl⟩
      rw [hX] at hcell2 hRX
      have HX1 : Hid (X.length ≤ 1000) := Lib.hid (hX ▸ hsx.out q hq)
      have HPF : Hid (pfB (q : Int) s.n X.length = true) := Lib.hid (by rw [hsn, ← hX]; exact (joB_iff.1 hjo.out).2 q hq)
      have HN0 : Hid (0 < s.n) := Lib.hid (by omega)
      have HQS : Hid (q < s.n) := Lib.hid (by omega)
      have HXE := Lib.hid hX
      have HQ := Lib.hid hq
      have HSN := Lib.hid hsn
      clear hX hall hsn
      have q8 : q < 8 := by omega
      rcases hqv with ⟨hio, _, hqv⟩ | ⟨hio, hqv, hdrop⟩
      · obtain ⟨b, o, rfl, hcs⟩ := hr4.at_ hio
        have hcell1 := hcs i hio
        clear hcs
        obtain ⟨x, hx⟩ : ∃ x, om[i].toNat = x := ⟨_, rfl⟩
        have hx256 : x < 256 := by rw [← hx]; exact UInt8.toNat_lt _
        rw [hx] at hcell1 hqv
        clear hx
        go_wp2_with (first | ((with_reducible refine Hp.box H ?_); (first | refine ⟨rfl, [.pointer _], rfl, ?_⟩ | refine ⟨rfl, [.int _ _], rfl, ?_⟩ | refine ⟨rfl, [.slice _ _ _], rfl, ?_⟩ | refine ⟨rfl, [.bool _], rfl, ?_⟩ | refine ⟨rfl, [.string _], rfl, ?_⟩ | refine ⟨rfl, _, rfl, ?_⟩); (clear H; intro g1 w1 H); go_frame) | ((with_reducible refine Hp.allo H ?_); refine ⟨rfl, ?_⟩; refine ⟨_, z_look rfl, ?_⟩; (clear H; intro g1 w1 H); go_frame) | ((with_reducible refine Hp.ld H ?_); refine ⟨rfl, ?_⟩; refine ⟨c_look rfl, ?_⟩; refine ⟨_, _, rfl, ?_⟩; ((repeat ((fail_if_success refine ⟨_, _, _, .z, ?_⟩); refine hs ?_)); refine ⟨_, _, _, .z, ?_⟩); refine ⟨_, rfl, ?_⟩; go_frame) | ((with_reducible refine Hp.lda H ?_); refine ⟨rfl, by kernel_rfl, ?_⟩; refine ⟨_, s_look rfl, ?_⟩; refine ⟨_, rfl, ?_⟩; ((repeat ((fail_if_success refine ⟨_, _, _, .z, ?_⟩); refine hs ?_)); refine ⟨_, _, _, .z, ?_⟩); refine ⟨rfl, ?_⟩; go_frame) | ((with_reducible refine Hp.lds H ?_); refine ⟨rfl, by kernel_rfl, ?_⟩; refine ⟨_, s_look rfl, ?_⟩; refine ⟨_, _, rfl, ?_⟩; ((repeat ((fail_if_success refine ⟨_, _, _, .z, ?_⟩); refine hs ?_)); refine ⟨_, _, _, .z, ?_⟩); (first | refine ⟨[_, _], rfl, rfl, ?_⟩ | refine ⟨[_, _, _, _], rfl, rfl, ?_⟩ | refine ⟨[_, _, _, _, _, _, _], rfl, rfl, ?_⟩ | refine ⟨[_, _, _], rfl, rfl, ?_⟩ | (fail)); go_frame) | ((with_reducible refine Hp.sto H ?_); refine ⟨rfl, ?_⟩; refine ⟨c_look rfl, ?_⟩; refine ⟨_, _, rfl, ?_⟩; ((repeat ((fail_if_success refine ⟨_, _, _, .z, ?_⟩); refine hs ?_)); refine ⟨_, _, _, .z, ?_⟩); refine ⟨⟨_, rfl⟩, rfl, ?_⟩; (clear H; intro w1 H; simp only [List.set] at H); go_frame) | ((with_reducible refine Hp.sta H ?_); refine ⟨rfl, ?_⟩; refine ⟨_, s_look rfl, ?_⟩; refine ⟨_, rfl, _, rfl, rfl, ?_⟩; ((repeat ((fail_if_success refine ⟨_, _, _, .z, ?_⟩); refine hs ?_)); refine ⟨_, _, _, .z, ?_⟩); refine ⟨rfl, rfl, ?_⟩; (clear H; intro w1 H; simp only [List.set] at H); go_frame) | ((with_reducible refine Hp.str H ?_); refine ⟨rfl, ?_⟩; refine ⟨_, s_look rfl, ?_⟩; refine ⟨_, _, rfl, _, rfl, rfl, ?_⟩; ((repeat ((fail_if_success refine ⟨_, _, _, .z, ?_⟩); refine hs ?_)); refine ⟨_, _, _, .z, ?_⟩); refine ⟨rfl, _, rfl, _, rfl, Nat.le_of_ble_eq_true rfl, ?_⟩; (clear H; intro w1 H; simp only [List.set] at H); go_frame) | ((with_reducible refine Hp.bdl H ?_); (fail); go_frame) | ((with_reducible refine Hp.ldo H ?_); refine ⟨rfl, by kernel_rfl, ?_⟩; refine ⟨_, rfl, ?_⟩; refine ⟨_, ‹_›, ?_⟩; go_frame) | ((with_reducible refine (hput_yes (q : Int) A5 c5 X _ H HN0.out (hRX.below H.below) HX1.out HPF.out).mono ?_); rintro _ w1 ⟨A6, c6, rfl, HB⟩; replace H := HB; clear HB) | ((with_reducible refine Hp.stv H ?_); refine ⟨rfl, by kernel_rfl, .bool _, rfl, rfl, _, _, rfl, _, _, _, (.s (.s (.s .z))), ⟨_, pbO_get HQS.out⟩, ?_⟩; (clear H; intro w1 H; simp only [List.set_cons_succ, List.set_cons_zero] at H; rw [pbO_put s q ⟨A6, c6, X⟩] at H); go_frame))
        have hO2 : HOk (s.put q ⟨A6, c6, X⟩) sl (.bytes A6 c6 X :: Lx) := HO.out.put q ⟨A6, c6, X⟩ HQ.out HXE.out.symm HX1.out List.mem_cons_self (fun y hy => List.mem_cons_of_mem _ hy)
        have hall2 : ∀ j : Nat, j + om.length < i + 1 → ((s.put q ⟨A6, c6, X⟩).get (j : Int)).isSome = true := fun j hj => hs_isSome_put (hallq.out j hj)
        obtain ⟨s2, hs2⟩ : ∃ s2, s.put q ⟨A6, c6, X⟩ = s2 := ⟨_, rfl⟩
        rw [hs2] at hO2 hall2 H
        clear hs2
        have hn2 : s2.n = sl.length := hO2.n
        have hmemm := hO2.mem
        have HO2 := Lib.hid hO2
        have HALL := Lib.hid hall2
        have HME : Hid (∀ x ∈ s2.ms, x.2.1.item ∈ (.bytes A6 c6 X :: .blk gp 4 (pbO s2) :: Lx) ∧ x.2.1.l.length ≤ 1000) := Lib.hid (fun x hx => ⟨by
          rcases List.mem_cons.1 (hmemm x hx).1 with e | e
          · rw [e]; exact List.mem_cons_self
          · exact List.mem_cons_of_mem _ (List.mem_cons_of_mem _ e), (hmemm x hx).2⟩)
        have HN1 : Hid (0 < s2.n) := Lib.hid (by omega)
        have HN8 : Hid (s2.n ≤ 1000) := Lib.hid (by omega)
        have hcs := hO2.all
        clear hO2 hmemm hall2
        have hat : SCo w2 (ghI gh gm s2 :: gmI gm s2 :: .bytes A6 c6 X :: .blk gp 4 (pbO s2) :: Lx) s2 sl.length (.int .i64 (0 : Nat)) (.int .i64 (0 : Nat)) w1 := ⟨0, Nat.zero_le _, rfl, rfl, H⟩
        obtain ⟨RC, hRC, hat⟩ := R_of3 hat
        clear H
        go_loopw [14, 15] (fun m v wr => RC m v wr) (fun _ v _ => sl.length - (intOf v).toNat)
        case atStart => exact hat
        case round =>
          clear hat
          rw [hRC] at hrel
          obtain ⟨j, hj, rfl, rfl, H⟩ := hrel
          by_cases hjl : j < sl.length
          · have hcell := H.c 3 rfl j (pbO_get (s := s2) (by omega))
            have hms := miss_succ s2 j
            have hmj := miss_le s2 j
            obtain ⟨ml, hml⟩ : ∃ ml, (s2.miss j).length = ml := ⟨_, rfl⟩
            have HMS := Lib.hid hms
            have HML := Lib.hid hml
            rw [hml] at hmj ⊢
            clear hms hml
            cases hg : s2.get (j : Int) with
            | some x =>
              rw [hg] at hcell
              have HG := Lib.hid hg
              clear hg
              go_wp2_with (first | ((with_reducible refine Hp.box H ?_); (first | refine ⟨rfl, [.pointer _], rfl, ?_⟩ | refine ⟨rfl, [.int _ _], rfl, ?_⟩ | refine ⟨rfl, [.slice _ _ _], rfl, ?_⟩ | refine ⟨rfl, [.bool _], rfl, ?_⟩ | refine ⟨rfl, [.string _], rfl, ?_⟩ | refine ⟨rfl, _, rfl, ?_⟩); (clear H; intro g1 w1 H); go_frame) | ((with_reducible refine Hp.allo H ?_); refine ⟨rfl, ?_⟩; refine ⟨_, z_look rfl, ?_⟩; (clear H; intro g1 w1 H); go_frame) | ((with_reducible refine Hp.ld H ?_); refine ⟨rfl, ?_⟩; refine ⟨c_look rfl, ?_⟩; refine ⟨_, _, rfl, ?_⟩; ((repeat ((fail_if_success refine ⟨_, _, _, .z, ?_⟩); refine hs ?_)); refine ⟨_, _, _, .z, ?_⟩); refine ⟨_, rfl, ?_⟩; go_frame) | ((with_reducible refine Hp.lda H ?_); refine ⟨rfl, by kernel_rfl, ?_⟩; refine ⟨_, s_look rfl, ?_⟩; refine ⟨_, rfl, ?_⟩; ((repeat ((fail_if_success refine ⟨_, _, _, .z, ?_⟩); refine hs ?_)); refine ⟨_, _, _, .z, ?_⟩); refine ⟨rfl, ?_⟩; go_frame) | ((with_reducible refine Hp.lds H ?_); refine ⟨rfl, by kernel_rfl, ?_⟩; refine ⟨_, s_look rfl, ?_⟩; refine ⟨_, _, rfl, ?_⟩; ((repeat ((fail_if_success refine ⟨_, _, _, .z, ?_⟩); refine hs ?_)); refine ⟨_, _, _, .z, ?_⟩); (first | refine ⟨[_, _], rfl, rfl, ?_⟩ | refine ⟨[_, _, _, _], rfl, rfl, ?_⟩ | refine ⟨[_, _, _, _, _, _, _], rfl, rfl, ?_⟩ | refine ⟨[_, _, _], rfl, rfl, ?_⟩ | (fail)); go_frame) | ((with_reducible refine Hp.sto H ?_); refine ⟨rfl, ?_⟩; refine ⟨c_look rfl, ?_⟩; refine ⟨_, _, rfl, ?_⟩; ((repeat ((fail_if_success refine ⟨_, _, _, .z, ?_⟩); refine hs ?_)); refine ⟨_, _, _, .z, ?_⟩); refine ⟨⟨_, rfl⟩, rfl, ?_⟩; (clear H; intro w1 H; simp only [List.set] at H); go_frame) | ((with_reducible refine Hp.sta H ?_); refine ⟨rfl, ?_⟩; refine ⟨_, s_look rfl, ?_⟩; refine ⟨_, rfl, _, rfl, rfl, ?_⟩; ((repeat ((fail_if_success refine ⟨_, _, _, .z, ?_⟩); refine hs ?_)); refine ⟨_, _, _, .z, ?_⟩); refine ⟨rfl, rfl, ?_⟩; (clear H; intro w1 H; simp only [List.set] at H); go_frame) | ((with_reducible refine Hp.str H ?_); refine ⟨rfl, ?_⟩; refine ⟨_, s_look rfl, ?_⟩; refine ⟨_, _, rfl, _, rfl, rfl, ?_⟩; ((repeat ((fail_if_success refine ⟨_, _, _, .z, ?_⟩); refine hs ?_)); refine ⟨_, _, _, .z, ?_⟩); refine ⟨rfl, _, rfl, _, rfl, Nat.le_of_ble_eq_true rfl, ?_⟩; (clear H; intro w1 H; simp only [List.set] at H); go_frame) | ((with_reducible refine Hp.bdl H ?_); (fail); go_frame) | ((with_reducible refine wl_ldw ?_); refine ⟨rfl, by kernel_rfl, _, rfl, _, ‹_›, ?_⟩; go_frame))
              go_roundw
              case rel =>
                rw [hRC]
                refine ⟨j + 1, hjl, rfl, ?_, H⟩
                rw [HMS.out, HG.out, if_neg (by simp), HML.out]
              case measure => show sl.length - ((j : Int) + 1).toNat < sl.length - ((j : Int)).toNat; omega
            | none =>
              rw [hg] at hcell
              have HG := Lib.hid hg
              clear hg
              go_wp2_with (first | ((with_reducible refine Hp.box H ?_); (first | refine ⟨rfl, [.pointer _], rfl, ?_⟩ | refine ⟨rfl, [.int _ _], rfl, ?_⟩ | refine ⟨rfl, [.slice _ _ _], rfl, ?_⟩ | refine ⟨rfl, [.bool _], rfl, ?_⟩ | refine ⟨rfl, [.string _], rfl, ?_⟩ | refine ⟨rfl, _, rfl, ?_⟩); (clear H; intro g1 w1 H); go_frame) | ((with_reducible refine Hp.allo H ?_); refine ⟨rfl, ?_⟩; refine ⟨_, z_look rfl, ?_⟩; (clear H; intro g1 w1 H); go_frame) | ((with_reducible refine Hp.ld H ?_); refine ⟨rfl, ?_⟩; refine ⟨c_look rfl, ?_⟩; refine ⟨_, _, rfl, ?_⟩; ((repeat ((fail_if_success refine ⟨_, _, _, .z, ?_⟩); refine hs ?_)); refine ⟨_, _, _, .z, ?_⟩); refine ⟨_, rfl, ?_⟩; go_frame) | ((with_reducible refine Hp.lda H ?_); refine ⟨rfl, by kernel_rfl, ?_⟩; refine ⟨_, s_look rfl, ?_⟩; refine ⟨_, rfl, ?_⟩; ((repeat ((fail_if_success refine ⟨_, _, _, .z, ?_⟩); refine hs ?_)); refine ⟨_, _, _, .z, ?_⟩); refine ⟨rfl, ?_⟩; go_frame) | ((with_reducible refine Hp.lds H ?_); refine ⟨rfl, by kernel_rfl, ?_⟩; refine ⟨_, s_look rfl, ?_⟩; refine ⟨_, _, rfl, ?_⟩; ((repeat ((fail_if_success refine ⟨_, _, _, .z, ?_⟩); refine hs ?_)); refine ⟨_, _, _, .z, ?_⟩); (first | refine ⟨[_, _], rfl, rfl, ?_⟩ | refine ⟨[_, _, _, _], rfl, rfl, ?_⟩ | refine ⟨[_, _, _, _, _, _, _], rfl, rfl, ?_⟩ | refine ⟨[_, _, _], rfl, rfl, ?_⟩ | (fail)); go_frame) | ((with_reducible refine Hp.sto H ?_); refine ⟨rfl, ?_⟩; refine ⟨c_look rfl, ?_⟩; refine ⟨_, _, rfl, ?_⟩; ((repeat ((fail_if_success refine ⟨_, _, _, .z, ?_⟩); refine hs ?_)); refine ⟨_, _, _, .z, ?_⟩); refine ⟨⟨_, rfl⟩, rfl, ?_⟩; (clear H; intro w1 H; simp only [List.set] at H); go_frame) | ((with_reducible refine Hp.sta H ?_); refine ⟨rfl, ?_⟩; refine ⟨_, s_look rfl, ?_⟩; refine ⟨_, rfl, _, rfl, rfl, ?_⟩; ((repeat ((fail_if_success refine ⟨_, _, _, .z, ?_⟩); refine hs ?_)); refine ⟨_, _, _, .z, ?_⟩); refine ⟨rfl, rfl, ?_⟩; (clear H; intro w1 H; simp only [List.set] at H); go_frame) | ((with_reducible refine Hp.str H ?_); refine ⟨rfl, ?_⟩; refine ⟨_, s_look rfl, ?_⟩; refine ⟨_, _, rfl, _, rfl, rfl, ?_⟩; ((repeat ((fail_if_success refine ⟨_, _, _, .z, ?_⟩); refine hs ?_)); refine ⟨_, _, _, .z, ?_⟩); refine ⟨rfl, _, rfl, _, rfl, Nat.le_of_ble_eq_true rfl, ?_⟩; (clear H; intro w1 H; simp only [List.set] at H); go_frame) | ((with_reducible refine Hp.bdl H ?_); (fail); go_frame) | ((with_reducible refine wl_ldw ?_); refine ⟨rfl, by kernel_rfl, _, rfl, _, ‹_›, ?_⟩; go_frame))
              go_roundw
              case rel =>
                rw [hRC]
                refine ⟨j + 1, hjl, rfl, ?_, H⟩
                rw [HMS.out, HG.out, if_pos (show (none : Option Ch).isNone = true from rfl), List.length_append, HML.out]
                rfl
              case measure => show sl.length - ((j : Int) + 1).toNat < sl.length - ((j : Int)).toNat; omega
          · obtain rfl : j = sl.length := by omega
            rw [hn2] at hcs
            obtain ⟨ml, hml⟩ : ∃ ml, (s2.miss sl.length).length = ml := ⟨_, rfl⟩
            rw [hml] at hcs ⊢
            have HML : Hid ((s2.miss s2.n).length = ml) := Lib.hid (by rw [hn2]; exact hml)
            clear hml hn2
            rcases hcs with ⟨rfl, hE⟩ | ⟨hml0, hE⟩
            · have HE := Lib.hid hE
              clear hE
              go_wp2_with (first | ((with_reducible refine Hp.box H ?_); (first | refine ⟨rfl, [.pointer _], rfl, ?_⟩ | refine ⟨rfl, [.int _ _], rfl, ?_⟩ | refine ⟨rfl, [.slice _ _ _], rfl, ?_⟩ | refine ⟨rfl, [.bool _], rfl, ?_⟩ | refine ⟨rfl, [.string _], rfl, ?_⟩ | refine ⟨rfl, _, rfl, ?_⟩); (clear H; intro g1 w1 H); go_frame) | ((with_reducible refine Hp.allo H ?_); refine ⟨rfl, ?_⟩; refine ⟨_, z_look rfl, ?_⟩; (clear H; intro g1 w1 H); go_frame) | ((with_reducible refine Hp.ld H ?_); refine ⟨rfl, ?_⟩; refine ⟨c_look rfl, ?_⟩; refine ⟨_, _, rfl, ?_⟩; ((repeat ((fail_if_success refine ⟨_, _, _, .z, ?_⟩); refine hs ?_)); refine ⟨_, _, _, .z, ?_⟩); refine ⟨_, rfl, ?_⟩; go_frame) | ((with_reducible refine Hp.lda H ?_); refine ⟨rfl, by kernel_rfl, ?_⟩; refine ⟨_, s_look rfl, ?_⟩; refine ⟨_, rfl, ?_⟩; ((repeat ((fail_if_success refine ⟨_, _, _, .z, ?_⟩); refine hs ?_)); refine ⟨_, _, _, .z, ?_⟩); refine ⟨rfl, ?_⟩; go_frame) | ((with_reducible refine Hp.lds H ?_); refine ⟨rfl, by kernel_rfl, ?_⟩; refine ⟨_, s_look rfl, ?_⟩; refine ⟨_, _, rfl, ?_⟩; ((repeat ((fail_if_success refine ⟨_, _, _, .z, ?_⟩); refine hs ?_)); refine ⟨_, _, _, .z, ?_⟩); (first | refine ⟨[_, _], rfl, rfl, ?_⟩ | refine ⟨[_, _, _, _], rfl, rfl, ?_⟩ | refine ⟨[_, _, _, _, _, _, _], rfl, rfl, ?_⟩ | refine ⟨[_, _, _], rfl, rfl, ?_⟩ | (fail)); go_frame) | ((with_reducible refine Hp.sto H ?_); refine ⟨rfl, ?_⟩; refine ⟨c_look rfl, ?_⟩; refine ⟨_, _, rfl, ?_⟩; ((repeat ((fail_if_success refine ⟨_, _, _, .z, ?_⟩); refine hs ?_)); refine ⟨_, _, _, .z, ?_⟩); refine ⟨⟨_, rfl⟩, rfl, ?_⟩; (clear H; intro w1 H; simp only [List.set] at H); go_frame) | ((with_reducible refine Hp.sta H ?_); refine ⟨rfl, ?_⟩; refine ⟨_, s_look rfl, ?_⟩; refine ⟨_, rfl, _, rfl, rfl, ?_⟩; ((repeat ((fail_if_success refine ⟨_, _, _, .z, ?_⟩); refine hs ?_)); refine ⟨_, _, _, .z, ?_⟩); refine ⟨rfl, rfl, ?_⟩; (clear H; intro w1 H; simp only [List.set] at H); go_frame) | ((with_reducible refine Hp.str H ?_); refine ⟨rfl, ?_⟩; refine ⟨_, s_look rfl, ?_⟩; refine ⟨_, _, rfl, _, rfl, rfl, ?_⟩; ((repeat ((fail_if_success refine ⟨_, _, _, .z, ?_⟩); refine hs ?_)); refine ⟨_, _, _, .z, ?_⟩); refine ⟨rfl, _, rfl, _, rfl, Nat.le_of_ble_eq_true rfl, ?_⟩; (clear H; intro w1 H; simp only [List.set] at H); go_frame) | ((with_reducible refine Hp.bdl H ?_); (fail); go_frame) | ((with_reducible refine (hwhole_v rfl HE.out _ (hm_of H HME.out) HN1.out HN8.out).mono ?_); rintro _ w1 ⟨A8, c8, rfl, hown, hb⟩; replace H := H.call hb; clear hb hown) | ((with_reducible refine (hmiss_n HML.out _ (hm_of H HME.out) HN1.out HN8.out).mono ?_); rintro _ w1 ⟨A9, c9, rfl, hb⟩; replace H := H.call hb; clear hb))
              go_roundw
              case rel =>
                rw [hR]
                exact ⟨i + 1, s2, .bytes A6 c6 X :: Lx, hlt, rfl, HO2.out, HALL.out, H.perm (.cons _ (.cons _ (.swap _ _ _)))⟩
              case measure => show om.length + sl.length - ((i : Int) + 1).toNat < om.length + sl.length - ((i : Int)).toNat; omega
            · have HE := Lib.hid hE
              have hml1 : ((ml : Int) == 0) = false := by rw [beq_eq_false_iff_ne]; omega
              clear hE
              go_wp2_with (first | ((with_reducible refine Hp.box H ?_); (first | refine ⟨rfl, [.pointer _], rfl, ?_⟩ | refine ⟨rfl, [.int _ _], rfl, ?_⟩ | refine ⟨rfl, [.slice _ _ _], rfl, ?_⟩ | refine ⟨rfl, [.bool _], rfl, ?_⟩ | refine ⟨rfl, [.string _], rfl, ?_⟩ | refine ⟨rfl, _, rfl, ?_⟩); (clear H; intro g1 w1 H); go_frame) | ((with_reducible refine Hp.allo H ?_); refine ⟨rfl, ?_⟩; refine ⟨_, z_look rfl, ?_⟩; (clear H; intro g1 w1 H); go_frame) | ((with_reducible refine Hp.ld H ?_); refine ⟨rfl, ?_⟩; refine ⟨c_look rfl, ?_⟩; refine ⟨_, _, rfl, ?_⟩; ((repeat ((fail_if_success refine ⟨_, _, _, .z, ?_⟩); refine hs ?_)); refine ⟨_, _, _, .z, ?_⟩); refine ⟨_, rfl, ?_⟩; go_frame) | ((with_reducible refine Hp.lda H ?_); refine ⟨rfl, by kernel_rfl, ?_⟩; refine ⟨_, s_look rfl, ?_⟩; refine ⟨_, rfl, ?_⟩; ((repeat ((fail_if_success refine ⟨_, _, _, .z, ?_⟩); refine hs ?_)); refine ⟨_, _, _, .z, ?_⟩); refine ⟨rfl, ?_⟩; go_frame) | ((with_reducible refine Hp.lds H ?_); refine ⟨rfl, by kernel_rfl, ?_⟩; refine ⟨_, s_look rfl, ?_⟩; refine ⟨_, _, rfl, ?_⟩; ((repeat ((fail_if_success refine ⟨_, _, _, .z, ?_⟩); refine hs ?_)); refine ⟨_, _, _, .z, ?_⟩); (first | refine ⟨[_, _], rfl, rfl, ?_⟩ | refine ⟨[_, _, _, _], rfl, rfl, ?_⟩ | refine ⟨[_, _, _, _, _, _, _], rfl, rfl, ?_⟩ | refine ⟨[_, _, _], rfl, rfl, ?_⟩ | (fail)); go_frame) | ((with_reducible refine Hp.sto H ?_); refine ⟨rfl, ?_⟩; refine ⟨c_look rfl, ?_⟩; refine ⟨_, _, rfl, ?_⟩; ((repeat ((fail_if_success refine ⟨_, _, _, .z, ?_⟩); refine hs ?_)); refine ⟨_, _, _, .z, ?_⟩); refine ⟨⟨_, rfl⟩, rfl, ?_⟩; (clear H; intro w1 H; simp only [List.set] at H); go_frame) | ((with_reducible refine Hp.sta H ?_); refine ⟨rfl, ?_⟩; refine ⟨_, s_look rfl, ?_⟩; refine ⟨_, rfl, _, rfl, rfl, ?_⟩; ((repeat ((fail_if_success refine ⟨_, _, _, .z, ?_⟩); refine hs ?_)); refine ⟨_, _, _, .z, ?_⟩); refine ⟨rfl, rfl, ?_⟩; (clear H; intro w1 H; simp only [List.set] at H); go_frame) | ((with_reducible refine Hp.str H ?_); refine ⟨rfl, ?_⟩; refine ⟨_, s_look rfl, ?_⟩; refine ⟨_, _, rfl, _, rfl, rfl, ?_⟩; ((repeat ((fail_if_success refine ⟨_, _, _, .z, ?_⟩); refine hs ?_)); refine ⟨_, _, _, .z, ?_⟩); refine ⟨rfl, _, rfl, _, rfl, Nat.le_of_ble_eq_true rfl, ?_⟩; (clear H; intro w1 H; simp only [List.set] at H); go_frame) | ((with_reducible refine Hp.bdl H ?_); (fail); go_frame) | ((with_reducible refine (hwhole_v rfl HE.out _ (hm_of H HME.out) HN1.out HN8.out).mono ?_); rintro _ w1 ⟨A8, c8, rfl, hown, hb⟩; replace H := H.call hb; clear hb hown) | ((with_reducible refine (hmiss_n HML.out _ (hm_of H HME.out) HN1.out HN8.out).mono ?_); rintro _ w1 ⟨A9, c9, rfl, hb⟩; replace H := H.call hb; clear hb))
              go_roundw
              case rel =>
                rw [hR]
                exact ⟨i + 1, s2, .bytes A6 c6 X :: Lx, hlt, rfl, HO2.out, HALL.out, H.perm (.cons _ (.cons _ (.swap _ _ _)))⟩
              case measure => show om.length + sl.length - ((i : Int) + 1).toNat < om.length + sl.length - ((i : Int)).toNat; omega
      · clear hdrop
        go_wp2_with (first | ((with_reducible refine Hp.box H ?_); (first | refine ⟨rfl, [.pointer _], rfl, ?_⟩ | refine ⟨rfl, [.int _ _], rfl, ?_⟩ | refine ⟨rfl, [.slice _ _ _], rfl, ?_⟩ | refine ⟨rfl, [.bool _], rfl, ?_⟩ | refine ⟨rfl, [.string _], rfl, ?_⟩ | refine ⟨rfl, _, rfl, ?_⟩); (clear H; intro g1 w1 H); go_frame) | ((with_reducible refine Hp.allo H ?_); refine ⟨rfl, ?_⟩; refine ⟨_, z_look rfl, ?_⟩; (clear H; intro g1 w1 H); go_frame) | ((with_reducible refine Hp.ld H ?_); refine ⟨rfl, ?_⟩; refine ⟨c_look rfl, ?_⟩; refine ⟨_, _, rfl, ?_⟩; ((repeat ((fail_if_success refine ⟨_, _, _, .z, ?_⟩); refine hs ?_)); refine ⟨_, _, _, .z, ?_⟩); refine ⟨_, rfl, ?_⟩; go_frame) | ((with_reducible refine Hp.lda H ?_); refine ⟨rfl, by kernel_rfl, ?_⟩; refine ⟨_, s_look rfl, ?_⟩; refine ⟨_, rfl, ?_⟩; ((repeat ((fail_if_success refine ⟨_, _, _, .z, ?_⟩); refine hs ?_)); refine ⟨_, _, _, .z, ?_⟩); refine ⟨rfl, ?_⟩; go_frame) | ((with_reducible refine Hp.lds H ?_); refine ⟨rfl, by kernel_rfl, ?_⟩; refine ⟨_, s_look rfl, ?_⟩; refine ⟨_, _, rfl, ?_⟩; ((repeat ((fail_if_success refine ⟨_, _, _, .z, ?_⟩); refine hs ?_)); refine ⟨_, _, _, .z, ?_⟩); (first | refine ⟨[_, _], rfl, rfl, ?_⟩ | refine ⟨[_, _, _, _], rfl, rfl, ?_⟩ | refine ⟨[_, _, _, _, _, _, _], rfl, rfl, ?_⟩ | refine ⟨[_, _, _], rfl, rfl, ?_⟩ | (fail)); go_frame) | ((with_reducible refine Hp.sto H ?_); refine ⟨rfl, ?_⟩; refine ⟨c_look rfl, ?_⟩; refine ⟨_, _, rfl, ?_⟩; ((repeat ((fail_if_success refine ⟨_, _, _, .z, ?_⟩); refine hs ?_)); refine ⟨_, _, _, .z, ?_⟩); refine ⟨⟨_, rfl⟩, rfl, ?_⟩; (clear H; intro w1 H; simp only [List.set] at H); go_frame) | ((with_reducible refine Hp.sta H ?_); refine ⟨rfl, ?_⟩; refine ⟨_, s_look rfl, ?_⟩; refine ⟨_, rfl, _, rfl, rfl, ?_⟩; ((repeat ((fail_if_success refine ⟨_, _, _, .z, ?_⟩); refine hs ?_)); refine ⟨_, _, _, .z, ?_⟩); refine ⟨rfl, rfl, ?_⟩; (clear H; intro w1 H; simp only [List.set] at H); go_frame) | ((with_reducible refine Hp.str H ?_); refine ⟨rfl, ?_⟩; refine ⟨_, s_look rfl, ?_⟩; refine ⟨_, _, rfl, _, rfl, rfl, ?_⟩; ((repeat ((fail_if_success refine ⟨_, _, _, .z, ?_⟩); refine hs ?_)); refine ⟨_, _, _, .z, ?_⟩); refine ⟨rfl, _, rfl, _, rfl, Nat.le_of_ble_eq_true rfl, ?_⟩; (clear H; intro w1 H; simp only [List.set] at H); go_frame) | ((with_reducible refine Hp.bdl H ?_); (fail); go_frame) | ((with_reducible refine Hp.ldo H ?_); refine ⟨rfl, by kernel_rfl, ?_⟩; refine ⟨_, rfl, ?_⟩; refine ⟨_, ‹_›, ?_⟩; go_frame) | ((with_reducible refine (hput_yes (q : Int) A5 c5 X _ H HN0.out (hRX.below H.below) HX1.out HPF.out).mono ?_); rintro _ w1 ⟨A6, c6, rfl, HB⟩; replace H := HB; clear HB) | ((with_reducible refine Hp.stv H ?_); refine ⟨rfl, by kernel_rfl, .bool _, rfl, rfl, _, _, rfl, _, _, _, (.s (.s (.s .z))), ⟨_, pbO_get HQS.out⟩, ?_⟩; (clear H; intro w1 H; simp only [List.set_cons_succ, List.set_cons_zero] at H; rw [pbO_put s q ⟨A6, c6, X⟩] at H); go_frame))
        have hO2 : HOk (s.put q ⟨A6, c6, X⟩) sl (.bytes A6 c6 X :: Lx) := HO.out.put q ⟨A6, c6, X⟩ HQ.out HXE.out.symm HX1.out List.mem_cons_self (fun y hy => List.mem_cons_of_mem _ hy)
        have hall2 : ∀ j : Nat, j + om.length < i + 1 → ((s.put q ⟨A6, c6, X⟩).get (j : Int)).isSome = true := fun j hj => hs_isSome_put (hallq.out j hj)
        obtain ⟨s2, hs2⟩ : ∃ s2, s.put q ⟨A6, c6, X⟩ = s2 := ⟨_, rfl⟩
        rw [hs2] at hO2 hall2 H
        clear hs2
        have hn2 : s2.n = sl.length := hO2.n
        have hmemm := hO2.mem
        have HO2 := Lib.hid hO2
        have HALL := Lib.hid hall2
        have HME : Hid (∀ x ∈ s2.ms, x.2.1.item ∈ (.bytes A6 c6 X :: .blk gp 4 (pbO s2) :: Lx) ∧ x.2.1.l.length ≤ 1000) := Lib.hid (fun x hx => ⟨by
          rcases List.mem_cons.1 (hmemm x hx).1 with e | e
          · rw [e]; exact List.mem_cons_self
          · exact List.mem_cons_of_mem _ (List.mem_cons_of_mem _ e), (hmemm x hx).2⟩)
        have HN1 : Hid (0 < s2.n) := Lib.hid (by omega)
        have HN8 : Hid (s2.n ≤ 1000) := Lib.hid (by omega)
        have hcs := hO2.all
        clear hO2 hmemm hall2
        have hat : SCo w2 (ghI gh gm s2 :: gmI gm s2 :: .bytes A6 c6 X :: .blk gp 4 (pbO s2) :: Lx) s2 sl.length (.int .i64 (0 : Nat)) (.int .i64 (0 : Nat)) w1 := ⟨0, Nat.zero_le _, rfl, rfl, H⟩
        obtain ⟨RC, hRC, hat⟩ := R_of3 hat
        clear H
        go_loopw [14, 15] (fun m v wr => RC m v wr) (fun _ v _ => sl.length - (intOf v).toNat)
        case atStart => exact hat
        case round =>
          clear hat
          rw [hRC] at hrel
          obtain ⟨j, hj, rfl, rfl, H⟩ := hrel
          by_cases hjl : j < sl.length
          · have hcell := H.c 3 rfl j (pbO_get (s := s2) (by omega))
            have hms := miss_succ s2 j
            have hmj := miss_le s2 j
            obtain ⟨ml, hml⟩ : ∃ ml, (s2.miss j).length = ml := ⟨_, rfl⟩
            have HMS := Lib.hid hms
            have HML := Lib.hid hml
            rw [hml] at hmj ⊢
            clear hms hml
            cases hg : s2.get (j : Int) with
            | some x =>
              rw [hg] at hcell
              have HG := Lib.hid hg
              clear hg
              go_wp2_with (first | ((with_reducible refine Hp.box H ?_); (first | refine ⟨rfl, [.pointer _], rfl, ?_⟩ | refine ⟨rfl, [.int _ _], rfl, ?_⟩ | refine ⟨rfl, [.slice _ _ _], rfl, ?_⟩ | refine ⟨rfl, [.bool _], rfl, ?_⟩ | refine ⟨rfl, [.string _], rfl, ?_⟩ | refine ⟨rfl, _, rfl, ?_⟩); (clear H; intro g1 w1 H); go_frame) | ((with_reducible refine Hp.allo H ?_); refine ⟨rfl, ?_⟩; refine ⟨_, z_look rfl, ?_⟩; (clear H; intro g1 w1 H); go_frame) | ((with_reducible refine Hp.ld H ?_); refine ⟨rfl, ?_⟩; refine ⟨c_look rfl, ?_⟩; refine ⟨_, _, rfl, ?_⟩; ((repeat ((fail_if_success refine ⟨_, _, _, .z, ?_⟩); refine hs ?_)); refine ⟨_, _, _, .z, ?_⟩); refine ⟨_, rfl, ?_⟩; go_frame) | ((with_reducible refine Hp.lda H ?_); refine ⟨rfl, by kernel_rfl, ?_⟩; refine ⟨_, s_look rfl, ?_⟩; refine ⟨_, rfl, ?_⟩; ((repeat ((fail_if_success refine ⟨_, _, _, .z, ?_⟩); refine hs ?_)); refine ⟨_, _, _, .z, ?_⟩); refine ⟨rfl, ?_⟩; go_frame) | ((with_reducible refine Hp.lds H ?_); refine ⟨rfl, by kernel_rfl, ?_⟩; refine ⟨_, s_look rfl, ?_⟩; refine ⟨_, _, rfl, ?_⟩; ((repeat ((fail_if_success refine ⟨_, _, _, .z, ?_⟩); refine hs ?_)); refine ⟨_, _, _, .z, ?_⟩); (first | refine ⟨[_, _], rfl, rfl, ?_⟩ | refine ⟨[_, _, _, _], rfl, rfl, ?_⟩ | refine ⟨[_, _, _, _, _, _, _], rfl, rfl, ?_⟩ | refine ⟨[_, _, _], rfl, rfl, ?_⟩ | (fail)); go_frame) | ((with_reducible refine Hp.sto H ?_); refine ⟨rfl, ?_⟩; refine ⟨c_look rfl, ?_⟩; refine ⟨_, _, rfl, ?_⟩; ((repeat ((fail_if_success refine ⟨_, _, _, .z, ?_⟩); refine hs ?_)); refine ⟨_, _, _, .z, ?_⟩); refine ⟨⟨_, rfl⟩, rfl, ?_⟩; (clear H; intro w1 H; simp only [List.set] at H); go_frame) | ((with_reducible refine Hp.sta H ?_); refine ⟨rfl, ?_⟩; refine ⟨_, s_look rfl, ?_⟩; refine ⟨_, rfl, _, rfl, rfl, ?_⟩; ((repeat ((fail_if_success refine ⟨_, _, _, .z, ?_⟩); refine hs ?_)); refine ⟨_, _, _, .z, ?_⟩); refine ⟨rfl, rfl, ?_⟩; (clear H; intro w1 H; simp only [List.set] at H); go_frame) | ((with_reducible refine Hp.str H ?_); refine ⟨rfl, ?_⟩; refine ⟨_, s_look rfl, ?_⟩; refine ⟨_, _, rfl, _, rfl, rfl, ?_⟩; ((repeat ((fail_if_success refine ⟨_, _, _, .z, ?_⟩); refine hs ?_)); refine ⟨_, _, _, .z, ?_⟩); refine ⟨rfl, _, rfl, _, rfl, Nat.le_of_ble_eq_true rfl, ?_⟩; (clear H; intro w1 H; simp only [List.set] at H); go_frame) | ((with_reducible refine Hp.bdl H ?_); (fail); go_frame) | ((with_reducible refine wl_ldw ?_); refine ⟨rfl, by kernel_rfl, _, rfl, _, ‹_›, ?_⟩; go_frame))
              go_roundw
              case rel =>
                rw [hRC]
                refine ⟨j + 1, hjl, rfl, ?_, H⟩
                rw [HMS.out, HG.out, if_neg (by simp), HML.out]
              case measure => show sl.length - ((j : Int) + 1).toNat < sl.length - ((j : Int)).toNat; omega
            | none =>
              rw [hg] at hcell
              have HG := Lib.hid hg
              clear hg
              go_wp2_with (first | ((with_reducible refine Hp.box H ?_); (first | refine ⟨rfl, [.pointer _], rfl, ?_⟩ | refine ⟨rfl, [.int _ _], rfl, ?_⟩ | refine ⟨rfl, [.slice _ _ _], rfl, ?_⟩ | refine ⟨rfl, [.bool _], rfl, ?_⟩ | refine ⟨rfl, [.string _], rfl, ?_⟩ | refine ⟨rfl, _, rfl, ?_⟩); (clear H; intro g1 w1 H); go_frame) | ((with_reducible refine Hp.allo H ?_); refine ⟨rfl, ?_⟩; refine ⟨_, z_look rfl, ?_⟩; (clear H; intro g1 w1 H); go_frame) | ((with_reducible refine Hp.ld H ?_); refine ⟨rfl, ?_⟩; refine ⟨c_look rfl, ?_⟩; refine ⟨_, _, rfl, ?_⟩; ((repeat ((fail_if_success refine ⟨_, _, _, .z, ?_⟩); refine hs ?_)); refine ⟨_, _, _, .z, ?_⟩); refine ⟨_, rfl, ?_⟩; go_frame) | ((with_reducible refine Hp.lda H ?_); refine ⟨rfl, by kernel_rfl, ?_⟩; refine ⟨_, s_look rfl, ?_⟩; refine ⟨_, rfl, ?_⟩; ((repeat ((fail_if_success refine ⟨_, _, _, .z, ?_⟩); refine hs ?_)); refine ⟨_, _, _, .z, ?_⟩); refine ⟨rfl, ?_⟩; go_frame) | ((with_reducible refine Hp.lds H ?_); refine ⟨rfl, by kernel_rfl, ?_⟩; refine ⟨_, s_look rfl, ?_⟩; refine ⟨_, _, rfl, ?_⟩; ((repeat ((fail_if_success refine ⟨_, _, _, .z, ?_⟩); refine hs ?_)); refine ⟨_, _, _, .z, ?_⟩); (first | refine ⟨[_, _], rfl, rfl, ?_⟩ | refine ⟨[_, _, _, _], rfl, rfl, ?_⟩ | refine ⟨[_, _, _, _, _, _, _], rfl, rfl, ?_⟩ | refine ⟨[_, _, _], rfl, rfl, ?_⟩ | (fail)); go_frame) | ((with_reducible refine Hp.sto H ?_); refine ⟨rfl, ?_⟩; refine ⟨c_look rfl, ?_⟩; refine ⟨_, _, rfl, ?_⟩; ((repeat ((fail_if_success refine ⟨_, _, _, .z, ?_⟩); refine hs ?_)); refine ⟨_, _, _, .z, ?_⟩); refine ⟨⟨_, rfl⟩, rfl, ?_⟩; (clear H; intro w1 H; simp only [List.set] at H); go_frame) | ((with_reducible refine Hp.sta H ?_); refine ⟨rfl, ?_⟩; refine ⟨_, s_look rfl, ?_⟩; refine ⟨_, rfl, _, rfl, rfl, ?_⟩; ((repeat ((fail_if_success refine ⟨_, _, _, .z, ?_⟩); refine hs ?_)); refine ⟨_, _, _, .z, ?_⟩); refine ⟨rfl, rfl, ?_⟩; (clear H; intro w1 H; simp only [List.set] at H); go_frame) | ((with_reducible refine Hp.str H ?_); refine ⟨rfl, ?_⟩; refine ⟨_, s_look rfl, ?_⟩; refine ⟨_, _, rfl, _, rfl, rfl, ?_⟩; ((repeat ((fail_if_success refine ⟨_, _, _, .z, ?_⟩); refine hs ?_)); refine ⟨_, _, _, .z, ?_⟩); refine ⟨rfl, _, rfl, _, rfl, Nat.le_of_ble_eq_true rfl, ?_⟩; (clear H; intro w1 H; simp only [List.set] at H); go_frame) | ((with_reducible refine Hp.bdl H ?_); (fail); go_frame) | ((with_reducible refine wl_ldw ?_); refine ⟨rfl, by kernel_rfl, _, rfl, _, ‹_›, ?_⟩; go_frame))
              go_roundw
              case rel =>
                rw [hRC]
                refine ⟨j + 1, hjl, rfl, ?_, H⟩
                rw [HMS.out, HG.out, if_pos (show (none : Option Ch).isNone = true from rfl), List.length_append, HML.out]
                rfl
              case measure => show sl.length - ((j : Int) + 1).toNat < sl.length - ((j : Int)).toNat; omega
          · obtain rfl : j = sl.length := by omega
            rw [hn2] at hcs
            obtain ⟨ml, hml⟩ : ∃ ml, (s2.miss sl.length).length = ml := ⟨_, rfl⟩
            rw [hml] at hcs ⊢
            have HML : Hid ((s2.miss s2.n).length = ml) := Lib.hid (by rw [hn2]; exact hml)
            clear hml hn2
            rcases hcs with ⟨rfl, hE⟩ | ⟨hml0, hE⟩
            · have HE := Lib.hid hE
              clear hE
              go_wp2_with (first | ((with_reducible refine Hp.box H ?_); (first | refine ⟨rfl, [.pointer _], rfl, ?_⟩ | refine ⟨rfl, [.int _ _], rfl, ?_⟩ | refine ⟨rfl, [.slice _ _ _], rfl, ?_⟩ | refine ⟨rfl, [.bool _], rfl, ?_⟩ | refine ⟨rfl, [.string _], rfl, ?_⟩ | refine ⟨rfl, _, rfl, ?_⟩); (clear H; intro g1 w1 H); go_frame) | ((with_reducible refine Hp.allo H ?_); refine ⟨rfl, ?_⟩; refine ⟨_, z_look rfl, ?_⟩; (clear H; intro g1 w1 H); go_frame) | ((with_reducible refine Hp.ld H ?_); refine ⟨rfl, ?_⟩; refine ⟨c_look rfl, ?_⟩; refine ⟨_, _, rfl, ?_⟩; ((repeat ((fail_if_success refine ⟨_, _, _, .z, ?_⟩); refine hs ?_)); refine ⟨_, _, _, .z, ?_⟩); refine ⟨_, rfl, ?_⟩; go_frame) | ((with_reducible refine Hp.lda H ?_); refine ⟨rfl, by kernel_rfl, ?_⟩; refine ⟨_, s_look rfl, ?_⟩; refine ⟨_, rfl, ?_⟩; ((repeat ((fail_if_success refine ⟨_, _, _, .z, ?_⟩); refine hs ?_)); refine ⟨_, _, _, .z, ?_⟩); refine ⟨rfl, ?_⟩; go_frame) | ((with_reducible refine Hp.lds H ?_); refine ⟨rfl, by kernel_rfl, ?_⟩; refine ⟨_, s_look rfl, ?_⟩; refine ⟨_, _, rfl, ?_⟩; ((repeat ((fail_if_success refine ⟨_, _, _, .z, ?_⟩); refine hs ?_)); refine ⟨_, _, _, .z, ?_⟩); (first | refine ⟨[_, _], rfl, rfl, ?_⟩ | refine ⟨[_, _, _, _], rfl, rfl, ?_⟩ | refine ⟨[_, _, _, _, _, _, _], rfl, rfl, ?_⟩ | refine ⟨[_, _, _], rfl, rfl, ?_⟩ | (fail)); go_frame) | ((with_reducible refine Hp.sto H ?_); refine ⟨rfl, ?_⟩; refine ⟨c_look rfl, ?_⟩; refine ⟨_, _, rfl, ?_⟩; ((repeat ((fail_if_success refine ⟨_, _, _, .z, ?_⟩); refine hs ?_)); refine ⟨_, _, _, .z, ?_⟩); refine ⟨⟨_, rfl⟩, rfl, ?_⟩; (clear H; intro w1 H; simp only [List.set] at H); go_frame) | ((with_reducible refine Hp.sta H ?_); refine ⟨rfl, ?_⟩; refine ⟨_, s_look rfl, ?_⟩; refine ⟨_, rfl, _, rfl, rfl, ?_⟩; ((repeat ((fail_if_success refine ⟨_, _, _, .z, ?_⟩); refine hs ?_)); refine ⟨_, _, _, .z, ?_⟩); refine ⟨rfl, rfl, ?_⟩; (clear H; intro w1 H; simp only [List.set] at H); go_frame) | ((with_reducible refine Hp.str H ?_); refine ⟨rfl, ?_⟩; refine ⟨_, s_look rfl, ?_⟩; refine ⟨_, _, rfl, _, rfl, rfl, ?_⟩; ((repeat ((fail_if_success refine ⟨_, _, _, .z, ?_⟩); refine hs ?_)); refine ⟨_, _, _, .z, ?_⟩); refine ⟨rfl, _, rfl, _, rfl, Nat.le_of_ble_eq_true rfl, ?_⟩; (clear H; intro w1 H; simp only [List.set] at H); go_frame) | ((with_reducible refine Hp.bdl H ?_); (fail); go_frame) | ((with_reducible refine (hwhole_v rfl HE.out _ (hm_of H HME.out) HN1.out HN8.out).mono ?_); rintro _ w1 ⟨A8, c8, rfl, hown, hb⟩; replace H := H.call hb; clear hb hown) | ((with_reducible refine (hmiss_n HML.out _ (hm_of H HME.out) HN1.out HN8.out).mono ?_); rintro _ w1 ⟨A9, c9, rfl, hb⟩; replace H := H.call hb; clear hb))
              go_roundw
              case rel =>
                rw [hR]
                exact ⟨i + 1, s2, .bytes A6 c6 X :: Lx, hlt, rfl, HO2.out, HALL.out, H.perm (.cons _ (.cons _ (.swap _ _ _)))⟩
              case measure => show om.length + sl.length - ((i : Int) + 1).toNat < om.length + sl.length - ((i : Int)).toNat; omega
            · have HE := Lib.hid hE
              have hml1 : ((ml : Int) == 0) = false := by rw [beq_eq_false_iff_ne]; omega
              clear hE
              go_wp2_with (first | ((with_reducible refine Hp.box H ?_); (first | refine ⟨rfl, [.pointer _], rfl, ?_⟩ | refine ⟨rfl, [.int _ _], rfl, ?_⟩ | refine ⟨rfl, [.slice _ _ _], rfl, ?_⟩ | refine ⟨rfl, [.bool _], rfl, ?_⟩ | refine ⟨rfl, [.string _], rfl, ?_⟩ | refine ⟨rfl, _, rfl, ?_⟩); (clear H; intro g1 w1 H); go_frame) | ((with_reducible refine Hp.allo H ?_); refine ⟨rfl, ?_⟩; refine ⟨_, z_look rfl, ?_⟩; (clear H; intro g1 w1 H); go_frame) | ((with_reducible refine Hp.ld H ?_); refine ⟨rfl, ?_⟩; refine ⟨c_look rfl, ?_⟩; refine ⟨_, _, rfl, ?_⟩; ((repeat ((fail_if_success refine ⟨_, _, _, .z, ?_⟩); refine hs ?_)); refine ⟨_, _, _, .z, ?_⟩); refine ⟨_, rfl, ?_⟩; go_frame) | ((with_reducible refine Hp.lda H ?_); refine ⟨rfl, by kernel_rfl, ?_⟩; refine ⟨_, s_look rfl, ?_⟩; refine ⟨_, rfl, ?_⟩; ((repeat ((fail_if_success refine ⟨_, _, _, .z, ?_⟩); refine hs ?_)); refine ⟨_, _, _, .z, ?_⟩); refine ⟨rfl, ?_⟩; go_frame) | ((with_reducible refine Hp.lds H ?_); refine ⟨rfl, by kernel_rfl, ?_⟩; refine ⟨_, s_look rfl, ?_⟩; refine ⟨_, _, rfl, ?_⟩; ((repeat ((fail_if_success refine ⟨_, _, _, .z, ?_⟩); refine hs ?_)); refine ⟨_, _, _, .z, ?_⟩); (first | refine ⟨[_, _], rfl, rfl, ?_⟩ | refine ⟨[_, _, _, _], rfl, rfl, ?_⟩ | refine ⟨[_, _, _, _, _, _, _], rfl, rfl, ?_⟩ | refine ⟨[_, _, _], rfl, rfl, ?_⟩ | (fail)); go_frame) | ((with_reducible refine Hp.sto H ?_); refine ⟨rfl, ?_⟩; refine ⟨c_look rfl, ?_⟩; refine ⟨_, _, rfl, ?_⟩; ((repeat ((fail_if_success refine ⟨_, _, _, .z, ?_⟩); refine hs ?_)); refine ⟨_, _, _, .z, ?_⟩); refine ⟨⟨_, rfl⟩, rfl, ?_⟩; (clear H; intro w1 H; simp only [List.set] at H); go_frame) | ((with_reducible refine Hp.sta H ?_); refine ⟨rfl, ?_⟩; refine ⟨_, s_look rfl, ?_⟩; refine ⟨_, rfl, _, rfl, rfl, ?_⟩; ((repeat ((fail_if_success refine ⟨_, _, _, .z, ?_⟩); refine hs ?_)); refine ⟨_, _, _, .z, ?_⟩); refine ⟨rfl, rfl, ?_⟩; (clear H; intro w1 H; simp only [List.set] at H); go_frame) | ((with_reducible refine Hp.str H ?_); refine ⟨rfl, ?_⟩; refine ⟨_, s_look rfl, ?_⟩; refine ⟨_, _, rfl, _, rfl, rfl, ?_⟩; ((repeat ((fail_if_success refine ⟨_, _, _, .z, ?_⟩); refine hs ?_)); refine ⟨_, _, _, .z, ?_⟩); refine ⟨rfl, _, rfl, _, rfl, Nat.le_of_ble_eq_true rfl, ?_⟩; (clear H; intro w1 H; simp only [List.set] at H); go_frame) | ((with_reducible refine Hp.bdl H ?_); (fail); go_frame) | ((with_reducible refine (hwhole_v rfl HE.out _ (hm_of H HME.out) HN1.out HN8.out).mono ?_); rintro _ w1 ⟨A8, c8, rfl, hown, hb⟩; replace H := H.call hb; clear hb hown) | ((with_reducible refine (hmiss_n HML.out _ (hm_of H HME.out) HN1.out HN8.out).mono ?_); rintro _ w1 ⟨A9, c9, rfl, hb⟩; replace H := H.call hb; clear hb))
              go_roundw
              case rel =>
                rw [hR]
                exact ⟨i + 1, s2, .bytes A6 c6 X :: Lx, hlt, rfl, HO2.out, HALL.out, H.perm (.cons _ (.cons _ (.swap _ _ _)))⟩
              case measure => show om.length + sl.length - ((i : Int) + 1).toNat < om.length + sl.length - ((i : Int)).toNat; omega
    · obtain rfl : i = om.length + sl.length := by omega
      have hw := HO.out.whole (fun j hj => hall j (by omega))
      have hlost := HO.out.lost (fun j hj => hall j (by omega))
      have HWE := Lib.hid hw.1
      have HWL : Hid (s.whL = l) := Lib.hid (hw.2.trans hfl.out)
      have hmemm := HO.out.mem
      have HME : Hid (∀ x ∈ s.ms, x.2.1.item ∈ (.blk gp 4 (pbO s) :: Lx) ∧ x.2.1.l.length ≤ 1000) := Lib.hid (fun x hx => ⟨List.mem_cons_of_mem _ (hmemm x hx).1, (hmemm x hx).2⟩)
      have HN1 : Hid (0 < s.n) := Lib.hid (by omega)
      have HN8 : Hid (s.n ≤ 1000) := Lib.hid (by omega)
      have HLO := Lib.hid hlost
      have HSN := Lib.hid hsn
      clear hw hmemm hall hlost hsn
      obtain ⟨p, hp, hpl⟩ := u64_tmod lost (sl.length : Int) (by omega)
      have hpl : p < sl.length := by omega
      have hp8 : p < 8 := by omega
      have HPS : Hid (p < s.n) := Lib.hid (by rw [HSN.out]; exact hpl)
      obtain ⟨hl1, hl2, hl3⟩ := HLO.out p HPS.out
      have HL1 := Lib.hid hl1
      have HL2 := Lib.hid hl2
      have HL3 : Hid (∀ x ∈ (s.del p).ms, x.2.1.item ∈ (.blk gp 4 (pbO s) :: Lx) ∧ x.2.1.l.length ≤ 1000) := Lib.hid (fun x hx => ⟨List.mem_cons_of_mem _ (hl3 x hx).1, (hl3 x hx).2⟩)
      have HPN : Hid ((p : Int) < (s.n : Int)) := Lib.hid (by have := HPS.out; omega)
      have HN2 : Hid (0 < (s.del p).n) := HN1
      have HN9 : Hid ((s.del p).n ≤ 1000) := HN8
      clear hl1 hl2 hl3
      go_wp2_with (first | ((with_reducible refine Hp.box H ?_); (first | refine ⟨rfl, [.pointer _], rfl, ?_⟩ | refine ⟨rfl, [.int _ _], rfl, ?_⟩ | refine ⟨rfl, [.slice _ _ _], rfl, ?_⟩ | refine ⟨rfl, [.bool _], rfl, ?_⟩ | refine ⟨rfl, [.string _], rfl, ?_⟩ | refine ⟨rfl, _, rfl, ?_⟩); (clear H; intro g1 w1 H); go_frame) | ((with_reducible refine Hp.allo H ?_); refine ⟨rfl, ?_⟩; refine ⟨_, z_look rfl, ?_⟩; (clear H; intro g1 w1 H); go_frame) | ((with_reducible refine Hp.ld H ?_); refine ⟨rfl, ?_⟩; refine ⟨c_look rfl, ?_⟩; refine ⟨_, _, rfl, ?_⟩; ((repeat ((fail_if_success refine ⟨_, _, _, .z, ?_⟩); refine hs ?_)); refine ⟨_, _, _, .z, ?_⟩); refine ⟨_, rfl, ?_⟩; go_frame) | ((with_reducible refine Hp.lda H ?_); refine ⟨rfl, by kernel_rfl, ?_⟩; refine ⟨_, s_look rfl, ?_⟩; refine ⟨_, rfl, ?_⟩; ((repeat ((fail_if_success refine ⟨_, _, _, .z, ?_⟩); refine hs ?_)); refine ⟨_, _, _, .z, ?_⟩); refine ⟨rfl, ?_⟩; go_frame) | ((with_reducible refine Hp.lds H ?_); refine ⟨rfl, by kernel_rfl, ?_⟩; refine ⟨_, s_look rfl, ?_⟩; refine ⟨_, _, rfl, ?_⟩; ((repeat ((fail_if_success refine ⟨_, _, _, .z, ?_⟩); refine hs ?_)); refine ⟨_, _, _, .z, ?_⟩); (first | refine ⟨[_, _], rfl, rfl, ?_⟩ | refine ⟨[_, _, _, _], rfl, rfl, ?_⟩ | refine ⟨[_, _, _, _, _, _, _], rfl, rfl, ?_⟩ | refine ⟨[_, _, _], rfl, rfl, ?_⟩ | (fail)); go_frame) | ((with_reducible refine Hp.sto H ?_); refine ⟨rfl, ?_⟩; refine ⟨c_look rfl, ?_⟩; refine ⟨_, _, rfl, ?_⟩; ((repeat ((fail_if_success refine ⟨_, _, _, .z, ?_⟩); refine hs ?_)); refine ⟨_, _, _, .z, ?_⟩); refine ⟨⟨_, rfl⟩, rfl, ?_⟩; (clear H; intro w1 H; simp only [List.set] at H); go_frame) | ((with_reducible refine Hp.sta H ?_); refine ⟨rfl, ?_⟩; refine ⟨_, s_look rfl, ?_⟩; refine ⟨_, rfl, _, rfl, rfl, ?_⟩; ((repeat ((fail_if_success refine ⟨_, _, _, .z, ?_⟩); refine hs ?_)); refine ⟨_, _, _, .z, ?_⟩); refine ⟨rfl, rfl, ?_⟩; (clear H; intro w1 H; simp only [List.set] at H); go_frame) | ((with_reducible refine Hp.str H ?_); refine ⟨rfl, ?_⟩; refine ⟨_, s_look rfl, ?_⟩; refine ⟨_, _, rfl, _, rfl, rfl, ?_⟩; ((repeat ((fail_if_success refine ⟨_, _, _, .z, ?_⟩); refine hs ?_)); refine ⟨_, _, _, .z, ?_⟩); refine ⟨rfl, _, rfl, _, rfl, Nat.le_of_ble_eq_true rfl, ?_⟩; (clear H; intro w1 H; simp only [List.set] at H); go_frame) | ((with_reducible refine Hp.bdl H ?_); (fail); go_frame) | ((with_reducible refine (hwhole_v HWL.out HWE.out _ (hm_of H HME.out) HN1.out HN8.out).mono ?_); rintro _ w1 ⟨A8, c8, rfl, hown, hb⟩; have hRA := hown.rd; replace H := H.call hb; clear hb hown) | ((with_reducible refine (same_s A8 A c8 c l _ hRA (hr3.below H.below) hlm).mono ?_); rintro _ w1 ⟨rfl, hb⟩; replace H := H.call hb; clear hb) | ((with_reducible refine (hlose_yes (p : Int) _ H HN1.out (Int.natCast_nonneg p) HPN.out).mono ?_); rintro _ w1 ⟨rfl, HB⟩; replace H := HB; clear HB) | ((with_reducible refine (hmiss_v HL1.out _ (hm_of H HL3.out) HN2.out HN9.out).mono ?_); rintro _ w1 ⟨A9, c9, rfl, HB⟩; replace H := HB.onto H; clear HB; simp only [List.cons_append, List.nil_append] at H; obtain ⟨g9, rfl⟩ := H.someR 0 rfl (by simp)) | ((with_reducible refine (hwhole_v rfl HL2.out _ (hm_of H.tail HL3.out) HN2.out HN9.out).mono ?_); rintro _ w1 ⟨A10, c10, rfl, hown, hb⟩; replace H := H.call hb; clear hb hown) | ((with_reducible refine wl_ldw ?_); refine ⟨rfl, by kernel_rfl, _, rfl, _, H.cell1 (f := fun i : Int => .int .i64 i) 0 rfl 0 rfl, ?_⟩; go_frame))
      go_ret
      exact ⟨rfl, bt hbw H.below⟩
theorem chunkAnyOrder_walk (A : Option Addr) (c : Nat) (l : List UInt8) (B : Option Addr) (d : Nat) (om : List UInt8) (lost : Int) (w : World) (hr : Rd w A l) (hc : l.length ≤ c) (hm : c ≤ maxLen) (hr2 : Rd w B om) (hc2 : om.length ≤ d) (hm2 : d ≤ maxLen) (n0 : -9223372036854775808 ≤ lost) (n1 : lost ≤ 9223372036854775807) :
    Calls Try.prog 9 #[.slice A l.length c, .slice B om.length d, .int .i64 lost] w (RetV w (.bool true)) := anyOrder_in A c l B d om lost w hr hc hm hr2 n0 n1
end Go.Proofs.Ytanpglhpmfdnmaa
