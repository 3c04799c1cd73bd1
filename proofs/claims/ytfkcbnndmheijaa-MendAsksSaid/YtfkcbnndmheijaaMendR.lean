/-
  THE WALKS OF awake AND OF THE LAW MendRound.
-/
import Derived.Test.YtfkcbnndmheijaaMendQ
namespace Go.Proofs.Ytfkcbnndmheijaa
open Go.RowKit
set_option linter.unusedVariables false

theorem ask_n (n id t sn bh mi mf mc : Int) (pl : Bool) (H C : Option Addr) (nh nc hc cc : Nat) (hu co : List Int) (w : World) (hnh : nh = hu.length) (hnc : nc = co.length) (ht : t ≤ 9223372036854775807) (hrH : RdI w H hu) (hrC : RdI w C co) (hcol : co.length ≤ 100) (ms : List Msg) (hms : askL n id t pl sn hu co bh mi mf mc = ms) :
    Calls Try.prog 12 #[.agg #[.int .i64 n, .int .i64 id, .int .i64 t, .bool pl, .int .i64 sn, .slice H nh hc, .slice C nc cc, .int .i64 bh, .int .i64 mi, .int .i64 mf, .int .i64 mc]] w (RetM w ms) := by
  subst hnh hnc hms
  exact ask_any n id t sn bh mi mf mc pl H C hc cc hu co w ht hrH hrC hcol
theorem RdI.nil (w : World) (A : Option Addr) : RdI w A [] := fun h => absurd rfl h
theorem rdi_one (w : World) (x : Int) (e : TypeId) : RdI (w.alloc (.cells #[.int .i64 x] e)) (some ⟨w.heap.size, 0, none⟩) [x] := by
  intro _
  refine ⟨_, _, rfl, fun i hi => ?_⟩
  obtain rfl : i = 0 := by simp at hi; exact hi
  rw [(Blk.new w e #[.int .i64 x]).cell 0]
  rfl
theorem RdI.alloc {w : World} {A : Option Addr} {l : List Int} (h : RdI w A l) (o : Obj) : RdI (w.alloc o) A l := h.below (bal0 w o)

set_option maxRecDepth 100000 in
set_option maxHeartbeats 1000000 in
theorem awake_any (w : World) : Calls Try.prog 14 #[] w (RetV w (.bool true)) := by
  have H1 : Hid (askL 3 0 0 false 0 [] [] 9 0 0 0 = [(10, 0, 1, 9, 0)]) := Lib.hid (by decide +kernel)
  have H2 : Hid (askL 3 0 0 true 0 [0] [4] 0 0 0 0 = []) := Lib.hid (by decide +kernel)
  have P1 : Hid (peerI 3 1 0 = 2) := Lib.hid (by decide +kernel)
  have P2 : Hid (peerI 3 1 1 = 0) := Lib.hid (by decide +kernel)
  have P3 : Hid (peerI 3 1 2 = 2) := Lib.hid (by decide +kernel)
  have P4 : Hid (peerI 3 3 0 = -1) := Lib.hid (by decide +kernel)
  have L0 : Hid (0 = ([] : List Int).length) := Lib.hid rfl
  have L1 : Hid (1 = ([0] : List Int).length) := Lib.hid rfl
  have L2 : Hid (1 = ([4] : List Int).length) := Lib.hid rfl
  have hmx : (0 : Int) ≤ 9223372036854775807 := by decide
  have hl0 : Hid (([] : List Int).length ≤ 100) := Lib.hid (by decide)
  have hl1 : Hid (([4] : List Int).length ≤ 100) := Lib.hid (by decide)
  go_enter Try.func14, Try.ntmps14
  go_wp2_with fail
  with_reducible refine (ask_n 3 0 0 0 9 0 0 0 false none none 0 0 0 0 [] [] _ L0.out L0.out hmx (RdI.nil _ _) (RdI.nil _ _) hl0.out _ H1.out).mono ?_
  rintro e w1 ⟨A1, c1, rfl, hown1, hb1⟩
  have hown1' : OwnM w1 w.heap.size A1 c1 [(10, 0, 1, 9, 0)] := hown1
  obtain ⟨g, rfl, hg1, hg2, hcap1, hcap2, hcells⟩ := hown1'.at_ (by decide)
  have m0 : w1.cell? ⟨g, 0, none⟩ = some (.int .u8 10) := hcells 0 (by decide) 0 _ rfl
  have m1 : w1.cell? ⟨g, 1, none⟩ = some (.int .i64 0) := hcells 0 (by decide) 1 _ rfl
  have m2 : w1.cell? ⟨g, 2, none⟩ = some (.int .i64 1) := hcells 0 (by decide) 2 _ rfl
  have m5 : w1.cell? ⟨g, 5, none⟩ = some (.int .i64 9) := hcells 0 (by decide) 5 _ rfl
  clear hcells hown1 hown1' hcap1 hcap2
  go_wp2_with fail
  with_reducible refine (ask_n 3 0 0 0 0 0 0 0 true _ _ 1 1 1 1 [0] [4] _ L1.out L2.out hmx ?_ ?_ hl1.out _ H2.out).mono ?_
  · have := rdi_one (w1.alloc (.cells #[.int .i64 4] 3)) 0 3
    rwa [World.size_alloc] at this
  · exact (rdi_one w1 4 3).alloc _
  rintro e w2 ⟨A2, c2, rfl, hown2, hb2⟩
  have hbb2 := bac (bac hb2)
  have k0 : w2.cell? ⟨g, 0, none⟩ = some (.int .u8 10) := (hbb2.cell (p := ⟨g, 0, none⟩) hg2).trans m0
  have k1 : w2.cell? ⟨g, 1, none⟩ = some (.int .i64 0) := (hbb2.cell (p := ⟨g, 1, none⟩) hg2).trans m1
  have k2 : w2.cell? ⟨g, 2, none⟩ = some (.int .i64 1) := (hbb2.cell (p := ⟨g, 2, none⟩) hg2).trans m2
  have k5 : w2.cell? ⟨g, 5, none⟩ = some (.int .i64 9) := (hbb2.cell (p := ⟨g, 5, none⟩) hg2).trans m5
  clear m0 m1 m2 m5 hb2 hown2
  have mx0 : (0 : Int) ≤ 9223372036854775807 := by decide
  have mx1 : (1 : Int) ≤ 9223372036854775807 := by decide
  have mx2 : (2 : Int) ≤ 9223372036854775807 := by decide
  go_wp2_with fail
  with_reducible refine (peer_any 3 1 0 _ mx0).mono ?_
  rw [P1.out]
  rintro e w3 ⟨rfl, rfl⟩
  go_wp2_with fail
  with_reducible refine (peer_any 3 1 1 _ mx1).mono ?_
  rw [P2.out]
  rintro e w3 ⟨rfl, rfl⟩
  go_wp2_with fail
  with_reducible refine (peer_any 3 1 2 _ mx2).mono ?_
  rw [P3.out]
  rintro e w3 ⟨rfl, rfl⟩
  go_wp2_with fail
  with_reducible refine (peer_any 3 3 0 _ mx0).mono ?_
  rw [P4.out]
  rintro e w3 ⟨rfl, rfl⟩
  go_wp2_with fail
  go_ret
  exact ⟨rfl, bt hb1 hbb2⟩

/-- a replica is never its own peer; in n - 1 turns no peer comes twice -/
theorem peer_other {n id t : Int} (h : peerB n id t = true) : peerI n id t ≠ id := by
  obtain ⟨h1, h2, h3, h4, h5⟩ := peerB_true h
  unfold peerI
  rw [h, if_pos rfl]
  have : n = 2 ∨ n = 3 ∨ n = 4 ∨ n = 5 ∨ n = 6 ∨ n = 7 := by omega
  rcases this with rfl | rfl | rfl | rfl | rfl | rfl <;> omega
theorem peer_inj {n id t : Int} (h : peerB n id t = true) {i j : Nat} (hij : i < j) (hj : (j : Int) < n - 1) : peerI n id (t + i) ≠ peerI n id (t + j) := by
  obtain ⟨h1, h2, h3, h4, h5⟩ := peerB_true h
  unfold peerI
  rw [peerB_mk h1 h2 h3 h4 (by omega), peerB_mk h1 h2 h3 h4 (by omega), if_pos rfl, if_pos rfl]
  have : n = 2 ∨ n = 3 ∨ n = 4 ∨ n = 5 ∨ n = 6 ∨ n = 7 := by omega
  rcases this with rfl | rfl | rfl | rfl | rfl | rfl <;> omega
theorem peer_round {n id t : Int} (h : peerB n id t = true) : peerI n id (t + n - 1) = peerI n id t := by
  obtain ⟨h1, h2, h3, h4, h5⟩ := peerB_true h
  unfold peerI
  rw [peerB_mk h1 h2 h3 h4 (by omega), h, if_pos rfl, if_pos rfl]
  have : n = 2 ∨ n = 3 ∨ n = 4 ∨ n = 5 ∨ n = 6 ∨ n = 7 := by omega
  rcases this with rfl | rfl | rfl | rfl | rfl | rfl <;> omega

theorem round_no (n id t : Int) (w : World) (h : n < 2 ∨ 7 < n ∨ id < 0 ∨ n ≤ id ∨ t < 0 ∨ 1099511627776 < t) : Calls Try.prog 4 #[.int .i64 n, .int .i64 id, .int .i64 t] w (RetV w (.bool true)) := by
  have HP : Hid (peerI n id (-1) = -1) := Lib.hid (peerI_no (by simp [peerB]))
  have hmx : (-1 : Int) ≤ 9223372036854775807 := by decide
  have key : (decide (n < 2) || (decide (7 < n) || (decide (id < 0) || (decide (n ≤ id) || (decide (t < 0) || decide (1099511627776 < t)))))) = true := by simp; omega
  clear h
  cases g1 : decide (n < 2)
  case true =>
    go_enter Try.func4, Try.ntmps4
    go_wp2_with fail
    refine (awake_any _).mono ?_
    rintro e w1 ⟨rfl, hb1⟩
    go_wp2_with fail
    with_reducible refine (peer_any n id (-1) _ hmx).mono ?_
    rw [HP.out]
    rintro e w3 ⟨rfl, rfl⟩
    go_wp2_with fail
    go_ret
    exact ⟨rfl, hb1⟩
  rw [g1, Bool.false_or] at key
  cases g2 : decide (7 < n)
  case true =>
    clear key
    go_enter Try.func4, Try.ntmps4
    go_wp2_with fail
    refine (awake_any _).mono ?_
    rintro e w1 ⟨rfl, hb1⟩
    go_wp2_with fail
    with_reducible refine (peer_any n id (-1) _ hmx).mono ?_
    rw [HP.out]
    rintro e w3 ⟨rfl, rfl⟩
    go_wp2_with fail
    go_ret
    exact ⟨rfl, hb1⟩
  rw [g2, Bool.false_or] at key
  cases g3 : decide (id < 0)
  case true =>
    clear key
    go_enter Try.func4, Try.ntmps4
    go_wp2_with fail
    refine (awake_any _).mono ?_
    rintro e w1 ⟨rfl, hb1⟩
    go_wp2_with fail
    with_reducible refine (peer_any n id (-1) _ hmx).mono ?_
    rw [HP.out]
    rintro e w3 ⟨rfl, rfl⟩
    go_wp2_with fail
    go_ret
    exact ⟨rfl, hb1⟩
  rw [g3, Bool.false_or] at key
  cases g4 : decide (n ≤ id)
  case true =>
    clear key
    go_enter Try.func4, Try.ntmps4
    go_wp2_with fail
    refine (awake_any _).mono ?_
    rintro e w1 ⟨rfl, hb1⟩
    go_wp2_with fail
    with_reducible refine (peer_any n id (-1) _ hmx).mono ?_
    rw [HP.out]
    rintro e w3 ⟨rfl, rfl⟩
    go_wp2_with fail
    go_ret
    exact ⟨rfl, hb1⟩
  rw [g4, Bool.false_or] at key
  cases g5 : decide (t < 0)
  case true =>
    clear key
    go_enter Try.func4, Try.ntmps4
    go_wp2_with fail
    refine (awake_any _).mono ?_
    rintro e w1 ⟨rfl, hb1⟩
    go_wp2_with fail
    with_reducible refine (peer_any n id (-1) _ hmx).mono ?_
    rw [HP.out]
    rintro e w3 ⟨rfl, rfl⟩
    go_wp2_with fail
    go_ret
    exact ⟨rfl, hb1⟩
  rw [g5, Bool.false_or] at key
  go_enter Try.func4, Try.ntmps4
  go_wp2_with fail
  refine (awake_any _).mono ?_
  rintro e w1 ⟨rfl, hb1⟩
  go_wp2_with fail
  with_reducible refine (peer_any n id (-1) _ hmx).mono ?_
  rw [HP.out]
  rintro e w3 ⟨rfl, rfl⟩
  go_wp2_with fail
  go_ret
  exact ⟨rfl, hb1⟩

/-- who was met -/
def metC (cs : List Bool) : Array Value := (cs.map Value.bool).toArray
theorem metC_get (cs : List Bool) (i : Nat) (h : i < cs.length) : (metC cs)[i]? = some (.bool cs[i]) := by simp [metC, h]
theorem metC_set (cs : List Bool) (i : Nat) : (metC cs).setIfInBounds i (.bool true) = metC (cs.set i true) := by simp [metC, List.map_set]
set_option maxRecDepth 100000 in
set_option maxHeartbeats 1000000 in
theorem mendRound_walk (n id t : Int) (w : World) (n0 : -9223372036854775808 ≤ n) (n1 : n ≤ 9223372036854775807) (i0 : -9223372036854775808 ≤ id) (i1 : id ≤ 9223372036854775807) (t0 : -9223372036854775808 ≤ t) (t1 : t ≤ 9223372036854775807) :
    Calls Try.prog 4 #[.int .i64 n, .int .i64 id, .int .i64 t] w (RetV w (.bool true)) := by
  by_cases hno : n < 2 ∨ 7 < n ∨ id < 0 ∨ n ≤ id ∨ t < 0 ∨ 1099511627776 < t
  · exact round_no n id t w hno
  have h1 : 2 ≤ n := by omega
  have h2 : n ≤ 7 := by omega
  have h3 : 0 ≤ id := by omega
  have h4 : id < n := by omega
  have h5 : 0 ≤ t := by omega
  have h6 : t ≤ 1099511627776 := by omega
  have g1 : decide (n < 2) = false := decide_eq_false (by omega)
  have g2 : decide (7 < n) = false := decide_eq_false (by omega)
  have g3 : decide (id < 0) = false := decide_eq_false (by omega)
  have g4 : decide (n ≤ id) = false := decide_eq_false (by omega)
  have g5 : decide (t < 0) = false := decide_eq_false (by omega)
  have g6 : decide (1099511627776 < t) = false := decide_eq_false (by omega)
  have hB := Lib.hid (peerB_mk h1 h2 h3 h4 h5)
  clear hno n0 n1 i0 i1 t0 t1
  go_enter Try.func4, Try.ntmps4
  go_wp2_with fail
  refine (awake_any _).mono ?_
  rintro e w1 ⟨rfl, hb1⟩
  have hz1 := hb1.size
  go_wp2_with fail
  have B0 : Blk (w1.alloc (.cells #[.bool false, .bool false, .bool false, .bool false, .bool false, .bool false, .bool false] 31)) w1.heap.size 31 (metC [false, false, false, false, false, false, false]) := Blk.new _ _ _
  go_loopw [8] (fun i wr => ∃ (k : Nat) (cs : List Bool), (k : Int) ≤ n - 1 ∧ i = .int .i64 k ∧ Blk wr w1.heap.size 31 (metC cs) ∧ Hid (cs.length = 7) ∧ Hid (∀ j, cs.getD j false = true → ∃ i, i < k ∧ peerI n id (t + (i : Nat)) = (j : Int)) ∧ Below w1.heap.size w1 wr) (fun i _ => 7 - (intOf i).toNat)
  case atStart => exact ⟨0, _, by omega, rfl, B0, Lib.hid rfl, Lib.hid (fun j hj => by
    match j with
    | 0 | 1 | 2 | 3 | 4 | 5 | 6 => simp at hj
    | k + 7 => simp at hj), bal0 _ _⟩
  case round =>
    obtain ⟨k, cs, hk, rfl, B, HL, HS, hb⟩ := hrel
    clear B0
    by_cases hlt : (k : Int) < n - 1
    · have hBk : peerB n id (t + k) = true := peerB_mk h1 h2 h3 h4 (by omega)
      have hbd := peerI_bd hBk
      have hne := peer_other hBk
      obtain ⟨p, hp⟩ : ∃ p : Nat, peerI n id (t + k) = p := ⟨(peerI n id (t + k)).toNat, by omega⟩
      have HP := Lib.hid hp
      rw [hp] at hbd hne
      have hp7 : p < 7 := by omega
      have hpl : p < cs.length := by rw [HL.out]; exact hp7
      have hfalse : cs[p] = false := by
        cases e : cs[p]
        · rfl
        exfalso
        obtain ⟨i, hi, hpi⟩ := HS.out p (by rw [List.getD_eq_getElem?_getD, List.getElem?_eq_getElem hpl, e]; rfl)
        exact peer_inj hB.out hi hlt (hpi.trans hp.symm)
      have hcell := B.c p (.bool false) (by rw [metC_get cs p hpl, hfalse])
      have hfz := B.frozen
      have B2 := B.set p (.bool true)
      rw [metC_set] at B2
      have HL2 : Hid ((cs.set p true).length = 7) := Lib.hid (by rw [List.length_set]; exact HL.out)
      have HS2 : Hid (∀ j, (cs.set p true).getD j false = true → ∃ i, i < k + 1 ∧ peerI n id (t + (i : Nat)) = (j : Int)) := Lib.hid (by
        intro j hj
        by_cases e : p = j
        · subst e; exact ⟨k, by omega, HP.out⟩
        · rw [List.getD_eq_getElem?_getD, List.getElem?_set_ne e, ← List.getD_eq_getElem?_getD] at hj
          obtain ⟨i, hi, hpi⟩ := HS.out j hj
          exact ⟨i, by omega, hpi⟩)
      have hm40 : t + (k : Int) ≤ 9223372036854775807 := by omega
      have hp0 : decide ((p : Int) < 0) = false := decide_eq_false (by omega)
      have hpn : decide (n ≤ (p : Int)) = false := decide_eq_false (by omega)
      have hpi : ((p : Int) == id) = false := by rw [beq_eq_false_iff_ne]; exact hne
      have hb3 := hb.setCell (p := ⟨w1.heap.size, p, none⟩) (Nat.le_refl _) (.bool true)
      clear hBk hp hne hfalse HS hpl
      go_wp2_with fail
      with_reducible refine (peer_any n id (t + k) _ hm40).mono ?_
      rw [HP.out]
      rintro e w3 ⟨rfl, rfl⟩
      go_wp2_with fail
      go_roundw
      case measure => simp [intOf]; omega
      case rel => exact ⟨k + 1, _, by omega, by go_num, B2, HL2, HS2, hb3⟩
    · have hr := Lib.hid (peer_round hB.out)
      have hm1 : t + n - 1 ≤ 9223372036854775807 := by omega
      have hm2 : t ≤ 9223372036854775807 := by omega
      go_wp2_with fail
      with_reducible refine (peer_any n id (t + n - 1) _ hm1).mono ?_
      rw [hr.out]
      rintro e w3 ⟨rfl, rfl⟩
      go_wp2_with fail
      with_reducible refine (peer_any n id t _ hm2).mono ?_
      rintro e w3 ⟨rfl, rfl⟩
      go_wp2_with fail
      go_ret
      exact ⟨rfl, bt hb1 hb⟩
end Go.Proofs.Ytfkcbnndmheijaa
