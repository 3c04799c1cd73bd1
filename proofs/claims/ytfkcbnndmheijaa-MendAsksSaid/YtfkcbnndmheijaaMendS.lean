/-
  THE WALK OF THE LAW MendPlain.
-/
import Derived.Test.YtfkcbnndmheijaaMendR
import Derived.Test.YtfkcbnndmheijaaTrI
namespace Go.Proofs.Ytfkcbnndmheijaa
open Go.RowKit
set_option linter.unusedVariables false

theorem ask_good {n id t sn bh mi mf mc : Int} {pl : Bool} {hu co : List Int} (m : Msg) (h : m ∈ askL n id t pl sn hu co bh mi mf mc) :
    m.2.1 = id ∧ (pl = true → m.1 ≠ 14 ∧ m.1 ≠ 15) ∧ (m.1 ≠ 12 → m.2.2.1 ≠ id ∧ 0 ≤ m.2.2.1 ∧ m.2.2.1 < n) ∧ (m.1 = 12 → m.2.2.1 = mf) := by
  unfold askL at h
  split at h
  case isFalse => cases h
  rename_i hp
  have h1 := peerI_bd hp
  have h2 := peer_other hp
  rw [List.mem_append, List.mem_append] at h
  rcases h with h | h | h
  · unfold askF at h
    split at h
    · simp only [List.mem_singleton] at h; subst h; simp
    · split at h
      · rename_i h3
        simp only [List.mem_singleton] at h; subst h
        simp [h3.1]; exact ⟨h2, h1⟩
      · cases h
  · unfold askS at h
    split at h
    · simp only [List.mem_singleton] at h; subst h; simp; exact ⟨h2, h1⟩
    · cases h
  · unfold askT at h
    split at h
    · rename_i h3
      simp only [List.mem_singleton] at h; subst h
      simp [h3.1]; exact ⟨h2, h1⟩
    · cases h
theorem ask_apart {n id t sn bh mi mf mc : Int} {pl : Bool} {hu co : List Int} : (askL n id t pl sn hu co bh mi mf mc).Pairwise (fun a b => a.1 ≠ b.1) := by
  unfold askL
  split
  case isFalse => exact List.Pairwise.nil
  unfold askF askS askT
  split <;> (try split) <;> (try split) <;> (try split) <;> simp
theorem ask_len {n id t sn bh mi mf mc : Int} {pl : Bool} {hu co : List Int} : (askL n id t pl sn hu co bh mi mf mc).length ≤ 3 := by
  unfold askL
  split
  case isFalse => simp
  unfold askF askS askT
  split <;> (try split) <;> (try split) <;> (try split) <;> simp
theorem ask_kind {n id t sn bh mi mf mc : Int} {pl : Bool} {hu co : List Int} (m : Msg) (h : m ∈ askL n id t pl sn hu co bh mi mf mc) : m.1 = 10 ∨ m.1 = 12 ∨ m.1 = 14 ∨ m.1 = 15 := by
  unfold askL askF askS askT at h
  split at h
  case isFalse => cases h
  rw [List.mem_append, List.mem_append] at h
  rcases h with h | h | h
  · split at h
    · simp only [List.mem_singleton] at h; subst h; simp
    · split at h
      · simp only [List.mem_singleton] at h; subst h; simp
      · cases h
  · split at h
    · simp only [List.mem_singleton] at h; subst h; simp
    · cases h
  · split at h
    · simp only [List.mem_singleton] at h; subst h; simp
    · cases h

theorem great_any (n id t sn bh mi mf mc : Int) (pl : Bool) (H C : Option Addr) (hc cc : Nat) (nh nc : Nat) (w : World) :
    Calls Try.prog 8 #[.agg #[.int .i64 n, .int .i64 id, .int .i64 t, .bool pl, .int .i64 sn, .slice H nh hc, .slice C nc cc, .int .i64 bh, .int .i64 mi, .int .i64 mf, .int .i64 mc]] w (RetV w (.bool (decide (100 < nh) || decide (100 < nc)))) := by
  by_cases h1 : 100 < nh
  · have e : (decide (100 < nh) || decide (100 < nc)) = true := by simp [h1]
    rw [e]
    go_enter Try.func8, Try.ntmps8
    go_wp2_with fail
    go_ret
    exact ⟨rfl, bal0 _ _⟩
  have g1 : decide ((100 : Int) < nh) = false := decide_eq_false (by omega)
  by_cases h2 : 100 < nc
  · have e : (decide (100 < nh) || decide (100 < nc)) = true := by simp [h2]
    rw [e]
    have h2' : (100 : Int) < nc := by omega
    go_enter Try.func8, Try.ntmps8
    go_wp2_with fail
    go_ret
    exact ⟨rfl, bal0 _ _⟩
  have g2 : decide ((100 : Int) < nc) = false := decide_eq_false (by omega)
  have e : (decide (100 < nh) || decide (100 < nc)) = false := by simp [h1, h2]
  rw [e]
  clear e h1 h2
  go_enter Try.func8, Try.ntmps8
  go_wp2_with fail
  go_ret
  exact ⟨rfl, bal0 _ _⟩

set_option maxRecDepth 100000 in
set_option maxHeartbeats 40000000 in
theorem mendPlain_walk (n id t : Int) (pl : Bool) (sn : Int) (H : Option Addr) (hc : Nat) (hu : List Int) (C : Option Addr) (cc : Nat) (co : List Int) (bh mi mf mc : Int) (w : World)
    (n0 : -9223372036854775808 ≤ n) (n1 : n ≤ 9223372036854775807) (i0 : -9223372036854775808 ≤ id) (i1 : id ≤ 9223372036854775807) (t0 : -9223372036854775808 ≤ t) (t1 : t ≤ 9223372036854775807) (s0 : -9223372036854775808 ≤ sn) (s1 : sn ≤ 9223372036854775807)
    (hrH : RdI w H hu) (hcH : hu.length ≤ hc) (hmH : hc ≤ maxLen) (hrC : RdI w C co) (hcC : co.length ≤ cc) (hmC : cc ≤ maxLen) (b0 : -9223372036854775808 ≤ bh) (b1 : bh ≤ 9223372036854775807) (m0 : -9223372036854775808 ≤ mi) (m1 : mi ≤ 9223372036854775807) (f0 : -9223372036854775808 ≤ mf) (f1 : mf ≤ 9223372036854775807) (c0 : -9223372036854775808 ≤ mc) (c1 : mc ≤ 9223372036854775807) :
    Calls Try.prog 5 #[.agg #[.int .i64 n, .int .i64 id, .int .i64 t, .bool pl, .int .i64 sn, .slice H hu.length hc, .slice C co.length cc, .int .i64 bh, .int .i64 mi, .int .i64 mf, .int .i64 mc]] w (RetV w (.bool true)) := by
  clear n0 n1 i0 i1 t0 s0 s1 b0 b1 m0 m1 f0 f1 c0 c1 hcH hmH hcC hmC
  by_cases hgr : 100 < hu.length ∨ 100 < co.length
  · have HG : Hid ((decide (100 < hu.length) || decide (100 < co.length)) = true) := Lib.hid (by simpa using hgr)
    clear hgr
    go_enter Try.func5, Try.ntmps5
    go_wp2_with fail
    refine (awake_any _).mono ?_
    rintro e w1 ⟨rfl, hb1⟩
    have B1 := (Blk.new w 24 #[.int .i64 n, .int .i64 id, .int .i64 t, .bool pl, .int .i64 sn, .slice H hu.length hc, .slice C co.length cc, .int .i64 bh, .int .i64 mi, .int .i64 mf, .int .i64 mc]).bel hb1
    have x0 := B1.c 0 (.int .i64 n) rfl
    have x1 := B1.c 1 (.int .i64 id) rfl
    have x2 := B1.c 2 (.int .i64 t) rfl
    have x3 := B1.c 3 (.bool pl) rfl
    have x4 := B1.c 4 (.int .i64 sn) rfl
    have x5 := B1.c 5 (.slice H hu.length hc) rfl
    have x6 := B1.c 6 (.slice C co.length cc) rfl
    have x7 := B1.c 7 (.int .i64 bh) rfl
    have x8 := B1.c 8 (.int .i64 mi) rfl
    have x9 := B1.c 9 (.int .i64 mf) rfl
    have x10 := B1.c 10 (.int .i64 mc) rfl
    have hbb1 := bac hb1
    go_wp2_with fail
    with_reducible refine (great_any n id t sn bh mi mf mc pl H C hc cc hu.length co.length _).mono ?_
    rw [HG.out]
    rintro e w2 ⟨rfl, hb2⟩
    go_wp2_with fail
    go_ret
    exact ⟨rfl, bt hbb1 hb2⟩
  have hh : hu.length ≤ 100 := by omega
  have hcol : co.length ≤ 100 := by omega
  have HG : Hid ((decide (100 < hu.length) || decide (100 < co.length)) = false) := Lib.hid (by simp; omega)
  obtain ⟨ms, HMS⟩ : ∃ ms, Hid (askL n id t pl sn hu co bh mi mf mc = ms) := ⟨_, Lib.hid rfl⟩
  have hml : ms.length ≤ 3 := by rw [← HMS.out]; exact ask_len
  have HE : Hid (askL n id t pl sn [] [] 0 0 mf mc = []) := Lib.hid (by simp [askL, askF, askS, askT])
  have L0 : Hid (0 = ([] : List Int).length) := Lib.hid rfl
  have HL0 : Hid (([] : List Int).length ≤ 100) := Lib.hid (by decide)
  clear hgr
  go_enter Try.func5, Try.ntmps5
  go_wp2_with fail
  refine (awake_any _).mono ?_
  rintro e w1 ⟨rfl, hb1⟩
  have B1 := (Blk.new w 24 #[.int .i64 n, .int .i64 id, .int .i64 t, .bool pl, .int .i64 sn, .slice H hu.length hc, .slice C co.length cc, .int .i64 bh, .int .i64 mi, .int .i64 mf, .int .i64 mc]).bel hb1
  have x0 := B1.c 0 (.int .i64 n) rfl
  have x1 := B1.c 1 (.int .i64 id) rfl
  have x2 := B1.c 2 (.int .i64 t) rfl
  have x3 := B1.c 3 (.bool pl) rfl
  have x4 := B1.c 4 (.int .i64 sn) rfl
  have x5 := B1.c 5 (.slice H hu.length hc) rfl
  have x6 := B1.c 6 (.slice C co.length cc) rfl
  have x7 := B1.c 7 (.int .i64 bh) rfl
  have x8 := B1.c 8 (.int .i64 mi) rfl
  have x9 := B1.c 9 (.int .i64 mf) rfl
  have x10 := B1.c 10 (.int .i64 mc) rfl
  have hbb1 := bac hb1
  clear hb1
  go_wp2_with fail
  with_reducible refine (great_any n id t sn bh mi mf mc pl H C hc cc hu.length co.length _).mono ?_
  rw [HG.out]
  rintro e w2 ⟨rfl, hb2⟩
  have hbb2 := bt hbb1 hb2
  have B2 := B1.bel hb2
  clear x0 x1 x2 x3 x4 x5 x6 x7 x8 x9 x10
  have x0 := B2.c 0 (.int .i64 n) rfl
  have x1 := B2.c 1 (.int .i64 id) rfl
  have x2 := B2.c 2 (.int .i64 t) rfl
  have x3 := B2.c 3 (.bool pl) rfl
  have x4 := B2.c 4 (.int .i64 sn) rfl
  have x5 := B2.c 5 (.slice H hu.length hc) rfl
  have x6 := B2.c 6 (.slice C co.length cc) rfl
  have x7 := B2.c 7 (.int .i64 bh) rfl
  have x8 := B2.c 8 (.int .i64 mi) rfl
  have x9 := B2.c 9 (.int .i64 mf) rfl
  have x10 := B2.c 10 (.int .i64 mc) rfl
  have rH2 := hrH.below hbb2
  have rC2 := hrC.below hbb2
  clear hb2 B1
  go_wp2_with fail
  with_reducible refine (ask_n n id t sn bh mi mf mc pl H C hu.length co.length hc cc hu co _ rfl rfl t1 rH2 rC2 hcol ms HMS.out).mono ?_
  rintro e w3 ⟨A3, c3, rfl, hown3, hb3⟩
  have hbb3 := bt hbb2 hb3
  have B3 := B2.bel hb3
  clear x0 x1 x2 x3 x4 x5 x6 x7 x8 x9 x10 rH2 rC2 hrH hrC
  have x0 := B3.c 0 (.int .i64 n) rfl
  have x1 := B3.c 1 (.int .i64 id) rfl
  have x2 := B3.c 2 (.int .i64 t) rfl
  have x3 := B3.c 3 (.bool pl) rfl
  have x4 := B3.c 4 (.int .i64 sn) rfl
  have x5 := B3.c 5 (.slice H hu.length hc) rfl
  have x6 := B3.c 6 (.slice C co.length cc) rfl
  have x7 := B3.c 7 (.int .i64 bh) rfl
  have x8 := B3.c 8 (.int .i64 mi) rfl
  have x9 := B3.c 9 (.int .i64 mf) rfl
  have x10 := B3.c 10 (.int .i64 mc) rfl
  have hml' : decide ((3 : Int) < ms.length) = false := decide_eq_false (by omega)
  clear hb3 B2
  go_wp2_with fail
  clear x0 x1 x2 x3 x4 x5 x6 x7 x8 x9 x10
  go_loopw [4] (fun i wr => ∃ k : Nat, k ≤ ms.length ∧ i = .int .i64 k ∧ Below w3.heap.size w3 wr) (fun i _ => ms.length - (intOf i).toNat)
  case atStart => exact ⟨0, by omega, rfl, Below.refl _ _⟩
  case round =>
    obtain ⟨k, hk, rfl, hb⟩ := hrel
    have B4 := B3.bel hb
    have x0 := B4.c 0 (.int .i64 n) rfl
    have x1 := B4.c 1 (.int .i64 id) rfl
    have x2 := B4.c 2 (.int .i64 t) rfl
    have x3 := B4.c 3 (.bool pl) rfl
    have x4 := B4.c 4 (.int .i64 sn) rfl
    have x5 := B4.c 5 (.slice H hu.length hc) rfl
    have x6 := B4.c 6 (.slice C co.length cc) rfl
    have x7 := B4.c 7 (.int .i64 bh) rfl
    have x8 := B4.c 8 (.int .i64 mi) rfl
    have x9 := B4.c 9 (.int .i64 mf) rfl
    have x10 := B4.c 10 (.int .i64 mc) rfl
    have fx := B4.frozen
    have hbb4 := bt hbb3 hb
    by_cases hlt : k < ms.length
    · obtain ⟨g, rfl, hg1, hg2, hcap1, hcap2, hcells⟩ := hown3.at_ (by omega)
      obtain ⟨kd, fr, to, ix, ch, hm⟩ : ∃ kd fr to ix ch : Int, ms[k] = (kd, fr, to, ix, ch) := ⟨_, _, _, _, _, rfl⟩
      have hmem : ms[k] ∈ askL n id t pl sn hu co bh mi mf mc := by rw [HMS.out]; exact List.getElem_mem hlt
      obtain ⟨q1, q2, q3, q4⟩ := ask_good _ hmem
      have q5 := ask_kind _ hmem
      rw [hm] at q1 q2 q3 q4 q5
      simp only at q1 q2 q3 q4 q5
      subst q1
      have y0 : wr.cell? ⟨g, k * 27, none⟩ = some (.int .u8 kd) := by have := hcells k hlt 0 _ rfl; rw [hm] at this; exact (hb.cell (p := ⟨g, k * 27 + 0, none⟩) hg2).trans this
      have y1 : wr.cell? ⟨g, k * 27 + 1, none⟩ = some (.int .i64 fr) := by have := hcells k hlt 1 _ rfl; rw [hm] at this; exact (hb.cell (p := ⟨g, k * 27 + 1, none⟩) hg2).trans this
      have y2 : wr.cell? ⟨g, k * 27 + 2, none⟩ = some (.int .i64 to) := by have := hcells k hlt 2 _ rfl; rw [hm] at this; exact (hb.cell (p := ⟨g, k * 27 + 2, none⟩) hg2).trans this
      have hpr := List.pairwise_iff_getElem.1 (ask_apart (n := n) (id := fr) (t := t) (sn := sn) (bh := bh) (mi := mi) (mf := mf) (mc := mc) (pl := pl) (hu := hu) (co := co))
      rw [HMS.out] at hpr
      have g1 : kd ≠ 12 → (to == fr) = false ∧ decide (to < 0) = false ∧ decide (n ≤ to) = false := fun h => by
        obtain ⟨a, b, c⟩ := q3 h
        exact ⟨by rw [beq_eq_false_iff_ne]; exact a, decide_eq_false (by omega), decide_eq_false (by omega)⟩
      have g2 : kd = 12 → (to != mf) = false := fun h => by rw [bne_eq_false_iff_eq]; exact q4 h
      have hk3 : k < 3 := by omega
      rcases k with _ | j
      · clear hpr hm hmem hcells q3 q4
        rcases q5 with rfl | rfl | rfl | rfl <;> cases pl
        all_goals
          try exact absurd rfl (q2 rfl).1
          try exact absurd rfl (q2 rfl).2
        all_goals
          first | (have gd := g2 rfl; clear g1 g2 q2) | (obtain ⟨ga, gb, gc⟩ := g1 (by decide); clear g1 g2 q2)
          clear x2 x4 x5 x6 x7 x8 x10 fx hml' hh hcol hml t1
          rw [Nat.zero_mul] at y0 y1 y2
          go_wp2_with fail
          simp only [List.append_eq, List.cons_append, List.nil_append]
          go_quiet (fail)
          go_wp2_with fail
          go_roundw
          case rel => exact ⟨1, by omega, by go_num, ⟨hb.os, hb.tape, hb.output, hb.size, hb.block⟩⟩
          case measure => simp [intOf]; omega
      · obtain ⟨kd', z0, hz⟩ : ∃ kd', wr.cell? ⟨g, j * 27, none⟩ = some (.int .u8 kd') ∧ kd' ≠ kd := by
          refine ⟨(ms[j]'(by omega)).1, (hb.cell (p := ⟨g, j * 27 + 0, none⟩) hg2).trans (hcells j (by omega) 0 _ rfl), ?_⟩
          have := hpr j (j + 1) (by omega) hlt (by omega)
          rw [hm] at this
          exact this
        have hzb : (kd' == kd) = false := by rw [beq_eq_false_iff_ne]; exact hz
        have hj : j < ms.length := by omega
        clear hpr hm hmem hcells q3 q4 hz
        rcases q5 with rfl | rfl | rfl | rfl <;> cases pl
        all_goals
          try exact absurd rfl (q2 rfl).1
          try exact absurd rfl (q2 rfl).2
        all_goals
          first | (have gd := g2 rfl; clear g1 g2 q2) | (obtain ⟨ga, gb, gc⟩ := g1 (by decide); clear g1 g2 q2)
          clear x2 x4 x5 x6 x7 x8 x10 fx hml' hh hcol hml t1
          go_wp2_with fail
          simp only [List.append_eq, List.cons_append, List.nil_append]
          go_quiet (fail)
          go_wp2_with fail
          go_roundw
          case rel => exact ⟨j + 1 + 1, by omega, by go_num, ⟨hb.os, hb.tape, hb.output, hb.size, hb.block⟩⟩
          case measure => simp [intOf]; omega
    · obtain rfl : k = ms.length := by omega
      have hbb5 := (((hbb4.setCell (p := ⟨w.heap.size, 5, none⟩) (Nat.le_refl _) (.slice none 0 0)).setCell (p := ⟨w.heap.size, 6, none⟩) (Nat.le_refl _) (.slice none 0 0)).setCell (p := ⟨w.heap.size, 7, none⟩) (Nat.le_refl _) (.int .i64 0)).setCell (p := ⟨w.heap.size, 8, none⟩) (Nat.le_refl _) (.int .i64 0)
      go_wp2_with fail
      with_reducible refine (ask_n n id t sn 0 0 mf mc pl none none 0 0 0 0 [] [] _ L0.out L0.out t1 (RdI.nil _ _) (RdI.nil _ _) HL0.out [] HE.out).mono ?_
      rintro e w4 ⟨A4, c4, rfl, hown4, hb4⟩
      go_wp2_with fail
      go_ret
      exact ⟨rfl, bt hbb5 hb4⟩
end Go.Proofs.Ytfkcbnndmheijaa
