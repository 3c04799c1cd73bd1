/-
  THE WALK OF THE LAW FrameOpens.
-/
import Derived.Test.YtahfippapknolaaDoorFrameLawsC
namespace Go.Proofs.YtahfippapknolaaDoor
open Go.RowKit
set_option linter.unusedVariables false

/-- all bytes from k on are as they were: bytes of the caller's own, on which a loop writes -/
def Left (w : World) (g k : Nat) (l : List UInt8) : Prop := (∀ i (h : i < l.length), k ≤ i → w.cell? ⟨g, i, none⟩ = some (.int .u8 (l[i].toNat : Int))) ∧ (∀ i, w.frozen? ⟨g, i, none⟩ = false)
theorem Mine.left {w : World} {base : Nat} {A : Option Addr} {l : List UInt8} (h : Mine w base A l) (hn : l ≠ []) : ∃ g, A = some ⟨g, 0, none⟩ ∧ base ≤ g ∧ Left w g 0 l := by
  obtain ⟨b, o, e, hc⟩ := h.1 hn
  obtain ⟨g, e2, hg, hf⟩ := h.2 hn
  rw [e] at e2
  injection e2 with e2
  injection e2 with e3 e4
  subst e3 e4
  refine ⟨b, e, hg, fun i hi _ => ?_, hf⟩
  have := hc i hi
  rwa [Nat.zero_add] at this
theorem Left.set {w : World} {g k : Nat} {l : List UInt8} (h : Left w g k l) (hk : k < l.length) (u : Value) : Left (w.setCell ⟨g, k, none⟩ u) g (k + 1) l := by
  refine ⟨fun i hi hk2 => ?_, fun i => ?_⟩
  · rw [World.cell?_setCell_other _ _ _ _ (by intro e; injection e with e1 e2; omega)]
    exact h.1 i hi (by omega)
  · rw [World.frozen?_setCell]; exact h.2 i

/-- .. if there are any: they lie between two bounds -/
def LeftO (w : World) (base lim : Nat) (A : Option Addr) (k : Nat) (l : List UInt8) : Prop := l ≠ [] → ∃ g, A = some ⟨g, 0, none⟩ ∧ base ≤ g ∧ g < lim ∧ Left w g k l
theorem Left.block {w w' : World} {g k : Nat} {l : List UInt8} (h : Left w g k l) (hc : ∀ i, w'.cell? ⟨g, i, none⟩ = w.cell? ⟨g, i, none⟩) (hf : ∀ i, w'.frozen? ⟨g, i, none⟩ = w.frozen? ⟨g, i, none⟩) : Left w' g k l :=
  ⟨fun i hi hk => (hc i).trans (h.1 i hi hk), fun i => (hf i).trans (h.2 i)⟩
theorem Mine.leftO {w : World} {base : Nat} {A : Option Addr} {l : List UInt8} (h : Mine w base A l) : LeftO w base w.heap.size A 0 l := fun hn => by
  obtain ⟨g, e, hg, hl⟩ := h.left hn
  refine ⟨g, e, hg, ?_, hl⟩
  exact World.block_lt_of_cell? w _ (hl.1 0 (List.length_pos_iff.2 hn) (Nat.le_refl _))
theorem LeftO.below {w w' : World} {base lim k : Nat} {A : Option Addr} {l : List UInt8} (h : LeftO w base lim A k l) (hb : Below w.heap.size w w') (hl : lim ≤ w.heap.size) : LeftO w' base lim A k l := fun hn => by
  obtain ⟨g, e, hg, hg2, h⟩ := h hn
  exact ⟨g, e, hg, hg2, h.block (fun i => hb.cell (p := ⟨g, i, none⟩) (by simp; omega)) (fun i => hb.frozen (p := ⟨g, i, none⟩) (by simp; omega))⟩
theorem LeftO.mono {w : World} {base base' lim k : Nat} {A : Option Addr} {l : List UInt8} (h : LeftO w base lim A k l) (hb : base' ≤ base) : LeftO w base' lim A k l := fun hn => by
  obtain ⟨g, e, hg, hg2, h⟩ := h hn
  exact ⟨g, e, by omega, hg2, h⟩

set_option maxRecDepth 100000 in
set_option maxHeartbeats 4000000 in
theorem frameOpens_walk (A : Option Addr) (c : Nat) (l : List UInt8) (x y z : Int) (w : World) (hr : Rd w A l) (hc : l.length ≤ c) (hm : c ≤ maxLen)
    (x0 : -9223372036854775808 ≤ x) (x1 : x ≤ 9223372036854775807) (y0 : -9223372036854775808 ≤ y) (y1 : y ≤ 9223372036854775807) (z0 : -9223372036854775808 ≤ z) (z1 : z ≤ 9223372036854775807) :
    Calls Tryd.prog 3 #[.slice A l.length c, .int .i64 x, .int .i64 y, .int .i64 z] w (RetV w (.bool true)) := by
  by_cases h1 : 300 < l.length
  · go_enter Tryd.func3, Tryd.ntmps3
    go_wp2_with fail
    go_ret
    exact ⟨rfl, Below.refl _ _⟩
  have h300 : decide ((300 : Int) < l.length) = false := decide_eq_false (by omega)
  have hlm : l.length ≤ 140737488355328 := by omega
  have hlM : l.length ≤ maxLen := by omega
  obtain ⟨S, HS⟩ : ∃ S, Hid (frS l = S) := ⟨_, Lib.hid rfl⟩
  obtain ⟨v0, v1, v2, v3, v4, HV⟩ := frV_form l
  obtain ⟨D, HD⟩ : ∃ D, Hid (frB l = D) := ⟨_, Lib.hid rfl⟩
  obtain ⟨S2, HS2⟩ : ∃ S, Hid (mnS l x y z = S) := ⟨_, Lib.hid rfl⟩
  obtain ⟨u0, u1, u2, u3, u4, HV2⟩ := mnV_form l x y z
  obtain ⟨D2, HD2⟩ : ∃ D, Hid (mnB l x y z = D) := ⟨_, Lib.hid rfl⟩
  have hDl : D.length ≤ 300 := by
    rw [← HD.out]
    unfold frB
    split
    · simp; omega
    · simp
  have hDm : D.length ≤ maxLen := by unfold maxLen; omega
  have hD2m : D2.length ≤ maxLen := by
    rw [← HD2.out]
    unfold mnB
    split
    · simp
    · rw [HD.out]; exact hDm
  clear h1 x0 x1 y0 y1 z0 z1
  go_enter Tryd.func3, Tryd.ntmps3
  go_wp2_with fail
  with_reducible refine (copy_n A c l l.length _ hr hlm rfl).mono ?_
  rintro e w1 ⟨A1, c1, rfl, hown1, hb1⟩
  have hcaps1 := hown1.caps
  obtain ⟨hcap1, hcap1'⟩ := hcaps1
  have hsz1 := hb1.size
  go_wp2_with fail
  go_loopw [10] (fun n wr => ∃ m : Nat, m ≤ 2 ∧ n = .int .i64 m ∧ Below w1.heap.size w1 wr) (fun n _ => 2 - (intOf n).toNat)
  case atStart => exact ⟨0, by omega, rfl, Below.refl _ _⟩
  case round =>
    obtain ⟨m, hm2, rfl, hb⟩ := hrel
    by_cases hlt : m < 2
    · have hzr := hb.size
      have rl := hr.below (bt hb1 hb)
      have ro := hown1.rd.below hb
      go_wp2_with fail
      with_reducible refine (open_n A1 c1 l.length l _ ro hcap1 hcap1' rfl S v0 v1 v2 v3 v4 D HS HV HD).mono ?_
      rintro e w2 ⟨A2, c2, rfl, hm2', hc2, hcm2, hb2⟩
      have hlo2 := (hm2'.leftO.mono hzr)
      have r2 := hm2'.1
      have B12 := Blk.new w2 25 #[.int .i64 v0, .int .i64 v1, .int .i64 v2, .int .i64 v3, .int .i64 v4]
      have hbb2 := bel_trans hb hb2 hzr
      have hz2 := hbb2.size
      have hbb2' := hbb2.alloc hz2 (.cells #[.int .i64 v0, .int .i64 v1, .int .i64 v2, .int .i64 v3, .int .i64 v4] 25)
      have hlo2' := hlo2.below (bal0 w2 (.cells #[.int .i64 v0, .int .i64 v1, .int .i64 v2, .int .i64 v3, .int .i64 v4] 25)) (Nat.le_refl _)
      have rl2 := (rl.below hb2).alloc (.cells #[.int .i64 v0, .int .i64 v1, .int .i64 v2, .int .i64 v3, .int .i64 v4] 25)
      have ro2 := (ro.below hb2).alloc (.cells #[.int .i64 v0, .int .i64 v1, .int .i64 v2, .int .i64 v3, .int .i64 v4] 25)
      have r2' := r2.alloc (.cells #[.int .i64 v0, .int .i64 v1, .int .i64 v2, .int .i64 v3, .int .i64 v4] 25)
      clear hm2' hb2 r2 hlo2
      go_wp2_with fail
      with_reducible refine (ropen_n A c l.length l _ rl2 hc hm rfl S v0 v1 v2 v3 v4 D HS HV HD).mono ?_
      rintro e w3 ⟨A3, c3, rfl, hm3', hc3, hcm3, hb3⟩
      have B15 := Blk.new w3 25 #[.int .i64 v0, .int .i64 v1, .int .i64 v2, .int .i64 v3, .int .i64 v4]
      have B12a := B12.bel hb3
      have B12' := B12a.alloc (.cells #[.int .i64 v0, .int .i64 v1, .int .i64 v2, .int .i64 v3, .int .i64 v4] 25)
      have hlt3 := B12a.lt
      have hbb3 := (bel_trans hbb2' hb3 (by simp; omega))
      have hz3 := hbb3.size
      have hbb3' := hbb3.alloc hz3 (.cells #[.int .i64 v0, .int .i64 v1, .int .i64 v2, .int .i64 v3, .int .i64 v4] 25)
      have hlo3 := (hlo2'.below hb3 (by simp)).below (bal0 w3 (.cells #[.int .i64 v0, .int .i64 v1, .int .i64 v2, .int .i64 v3, .int .i64 v4] 25)) (by have := hb3.size; simp at this; omega)
      have rl3 := (rl2.below hb3).alloc (.cells #[.int .i64 v0, .int .i64 v1, .int .i64 v2, .int .i64 v3, .int .i64 v4] 25)
      have ro3 := (ro2.below hb3).alloc (.cells #[.int .i64 v0, .int .i64 v1, .int .i64 v2, .int .i64 v3, .int .i64 v4] 25)
      have r3 := (r2'.below hb3).alloc (.cells #[.int .i64 v0, .int .i64 v1, .int .i64 v2, .int .i64 v3, .int .i64 v4] 25)
      have r3' := hm3'.1.alloc (.cells #[.int .i64 v0, .int .i64 v1, .int .i64 v2, .int .i64 v3, .int .i64 v4] 25)
      have k0 := B12a.c 0 (.int .i64 v0) rfl
      have k1 := B12a.c 1 (.int .i64 v1) rfl
      have k2 := B12a.c 2 (.int .i64 v2) rfl
      have k3 := B12a.c 3 (.int .i64 v3) rfl
      have k4 := B12a.c 4 (.int .i64 v4) rfl
      clear hm3' hb3 B12 hbb3 hbb2 hbb2' B12a
      go_wp2_with fail
      with_reducible refine (same_self A2 A3 c2 c3 D D.length D.length _ r3 r3' hDm rfl rfl).mono ?_
      rintro e w4 ⟨rfl, hb4⟩
      have hbb4 := bel_trans hbb3' hb4 (by simp; omega)
      have rl4 := rl3.below hb4
      have ro4 := ro3.below hb4
      have hlo4 := hlo3.below hb4 (by simp; omega)
      have C12 := B12'.bel hb4
      have C15 := B15.bel hb4
      have hz4 := hbb4.size
      clear k0 k1 k2 k3 k4
      clear hb4 hlo3 rl3 ro3 r3 r3' B12' B15 hlo2' rl2 ro2 r2' hbb3'
      go_wp2_with fail
      with_reducible refine (same_self A1 A c1 c l l.length l.length _ ro4 rl4 hlM rfl rfl).mono ?_
      rintro e w5 ⟨rfl, hb5⟩
      have hbb5 := bel_trans hbb4 hb5 hz4
      have hlo5 := hlo4.below hb5 (by have := C12.lt; omega)
      have D12 := C12.bel hb5
      have D15 := C15.bel hb5
      clear hb5 hlo4 rl4 ro4 C12 C15 hbb4
      obtain ⟨p12, H12⟩ : ∃ p, Hid (w2.heap.size = p) := ⟨_, Lib.hid rfl⟩
      obtain ⟨p15, H15⟩ : ∃ p, Hid (w3.heap.size = p) := ⟨_, Lib.hid rfl⟩
      rw [H12.out] at D12 hlo5 hlt3 hz2 ⊢
      rw [H15.out] at D15 hlt3 ⊢
      obtain ⟨wo, HWO⟩ : ∃ wo : World, Hid (wo = wr) := ⟨_, Lib.hid rfl⟩
      go_wp2_with fail
      go_loopw [17] (fun i wq => ∃ k : Nat, k ≤ D.length ∧ i = .int .i64 k ∧ Below w1.heap.size w1 wq ∧ Blk wq p12 25 #[.int .i64 v0, .int .i64 v1, .int .i64 v2, .int .i64 v3, .int .i64 v4] ∧ Blk wq p15 25 #[.int .i64 v0, .int .i64 v1, .int .i64 v2, .int .i64 v3, .int .i64 v4] ∧ LeftO wq w1.heap.size p12 A2 k D) (fun i _ => D.length - (intOf i).toNat)
      case atStart => exact ⟨0, by omega, rfl, hbb5, D12, D15, hlo5⟩
      case round =>
        obtain ⟨k, hk, rfl, hbq, E12, E15, hlq⟩ := hrel
        by_cases hlt2 : k < D.length
        · obtain ⟨g, rfl, hg1, hg2, hLft⟩ := hlq (by intro e; rw [e] at hlt2; simp at hlt2)
          have hcell := hLft.1 k hlt2 (Nat.le_refl _)
          have hfz := hLft.2 k
          obtain ⟨yy, HY⟩ : ∃ y, Hid (y = D[k].toNat) := ⟨_, Lib.hid rfl⟩
          have hy : yy < 256 := by rw [HY.out]; exact D[k].toNat_lt
          rw [← HY.out] at hcell
          clear hbb5 D12 D15 hlo5
          go_wp2_with fail
          go_roundw
          case measure => simp [intOf]; omega
          case rel => exact ⟨k + 1, by omega, by go_num, hbq.setCell (p := ⟨g, k, none⟩) hg1 _, E12.far (p := ⟨g, k, none⟩) (by simp; omega) _, E15.far (p := ⟨g, k, none⟩) (by simp; omega) _, fun _ => ⟨g, rfl, hg1, hg2, hLft.set hlt2 _⟩⟩
        · obtain rfl : k = D.length := by omega
          clear hbb5 D12 D15 hlo5 hlt2
          have rl6 := hr.below (bt hb1 hbq)
          have ro6 := hown1.rd.below hbq
          have hz6 := hbq.size
          have hlt12 := E12.lt
          have hlt15 := E15.lt
          have hp15 : w1.heap.size ≤ p15 := by omega
          go_wp2_with fail
          with_reducible refine (mine_n A1 c1 l.length l x y z _ ro6 hcap1 hcap1' rfl S2 u0 u1 u2 u3 u4 D2 HS2 HV2 HD2).mono ?_
          rintro e w6 ⟨A6, c6, rfl, hm6, hc6, hcm6, hb6⟩
          have F12 := E12.bel hb6
          have F15 := E15.bel hb6
          have hbb6 := bel_trans hbq hb6 hz6
          have hma := (((((hm6).put (p := ⟨p12, 0, none⟩) hlt12 (.int .i64 u0)).put (p := ⟨p12, 1, none⟩) hlt12 (.int .i64 u1)).put (p := ⟨p12, 2, none⟩) hlt12 (.int .i64 u2)).put (p := ⟨p12, 3, none⟩) hlt12 (.int .i64 u3)).put (p := ⟨p12, 4, none⟩) hlt12 (.int .i64 u4)
          have hbb6a := (((((hbb6).setCell (p := ⟨p12, 0, none⟩) hz2 (.int .i64 u0)).setCell (p := ⟨p12, 1, none⟩) hz2 (.int .i64 u1)).setCell (p := ⟨p12, 2, none⟩) hz2 (.int .i64 u2)).setCell (p := ⟨p12, 3, none⟩) hz2 (.int .i64 u3)).setCell (p := ⟨p12, 4, none⟩) hz2 (.int .i64 u4)
          have G12 := (((((F12).set 0 (.int .i64 u0)).set 1 (.int .i64 u1)).set 2 (.int .i64 u2)).set 3 (.int .i64 u3)).set 4 (.int .i64 u4)
          simp only [List.setIfInBounds_toArray, List.set_cons_zero, List.set_cons_succ] at G12
          have G15 := (((((F15).far (p := ⟨p12, 0, none⟩) (by simp; omega) (.int .i64 u0)).far (p := ⟨p12, 1, none⟩) (by simp; omega) (.int .i64 u1)).far (p := ⟨p12, 2, none⟩) (by simp; omega) (.int .i64 u2)).far (p := ⟨p12, 3, none⟩) (by simp; omega) (.int .i64 u3)).far (p := ⟨p12, 4, none⟩) (by simp; omega) (.int .i64 u4)
          have rl7 := hr.below (bt hb1 hbb6a)
          have fz12 := F12.frozen
          have k0 := F12.c 0 (.int .i64 v0) rfl
          have k1 := F12.c 1 (.int .i64 v1) rfl
          have k2 := F12.c 2 (.int .i64 v2) rfl
          have k3 := F12.c 3 (.int .i64 v3) rfl
          have k4 := F12.c 4 (.int .i64 v4) rfl
          clear hb6 hm6 hbq E12 E15 hlq
          go_wp2_with fail
          with_reducible refine (rmine_n A c l.length l x y z _ rl7 hc hm rfl S2 u0 u1 u2 u3 u4 D2 HS2 HV2 HD2).mono ?_
          rintro e w7 ⟨A7, c7, rfl, hm7, hc7, hcm7, hb7⟩
          have hz6a := hbb6a.size
          have hbb7 := bel_trans hbb6a hb7 hz6a
          have J12 := G12.bel hb7
          have J15 := G15.bel hb7
          have fz15 := J15.frozen
          have hltx := G15.lt
          have hmc := (((((hm7).put (p := ⟨p15, 0, none⟩) hltx (.int .i64 u0)).put (p := ⟨p15, 1, none⟩) hltx (.int .i64 u1)).put (p := ⟨p15, 2, none⟩) hltx (.int .i64 u2)).put (p := ⟨p15, 3, none⟩) hltx (.int .i64 u3)).put (p := ⟨p15, 4, none⟩) hltx (.int .i64 u4)
          have hmb := ((((((hma.below hb7)).put (p := ⟨p15, 0, none⟩) hlt15 (.int .i64 u0)).put (p := ⟨p15, 1, none⟩) hlt15 (.int .i64 u1)).put (p := ⟨p15, 2, none⟩) hlt15 (.int .i64 u2)).put (p := ⟨p15, 3, none⟩) hlt15 (.int .i64 u3)).put (p := ⟨p15, 4, none⟩) hlt15 (.int .i64 u4)
          have hne : ¬ p12 = p15 := by omega
          have hne2 : ¬ p15 = p12 := by omega
          have hlu := hltx
          have hbb7a := (((((hbb7).setCell (p := ⟨p15, 0, none⟩) hp15 (.int .i64 u0)).setCell (p := ⟨p15, 1, none⟩) hp15 (.int .i64 u1)).setCell (p := ⟨p15, 2, none⟩) hp15 (.int .i64 u2)).setCell (p := ⟨p15, 3, none⟩) hp15 (.int .i64 u3)).setCell (p := ⟨p15, 4, none⟩) hp15 (.int .i64 u4)
          clear k0 k1 k2 k3 k4
          have k0 := J15.c 0 (.int .i64 v0) rfl
          have k1 := J15.c 1 (.int .i64 v1) rfl
          have k2 := J15.c 2 (.int .i64 v2) rfl
          have k3 := J15.c 3 (.int .i64 v3) rfl
          have k4 := J15.c 4 (.int .i64 v4) rfl
          have h0 := J12.c 0 (.int .i64 u0) rfl
          have h1 := J12.c 1 (.int .i64 u1) rfl
          have h2 := J12.c 2 (.int .i64 u2) rfl
          have h3 := J12.c 3 (.int .i64 u3) rfl
          have h4 := J12.c 4 (.int .i64 u4) rfl
          clear hb7 hm7 hma G12 G15
          have rma := hmb.1
          have rmb := hmc.1
          go_wp2_with fail
          with_reducible refine (same_self A6 A7 c6 c7 D2 D2.length D2.length _ rma rmb hD2m rfl rfl).mono ?_
          rintro e w8 ⟨rfl, hb8⟩
          have hbb8 := bel_trans hbb7a hb8 hbb7a.size
          clear hb8 hbb7a hmb hmc
          go_wp2_with fail
          go_roundw
          case measure => simp [intOf]; omega
          case rel => exact ⟨m + 1, by omega, by go_num, hbb8⟩
    · obtain rfl : m = 2 := by omega
      have rl := hr.below (bt hb1 hb)
      have ro := hown1.rd.below hb
      go_wp2_with fail
      with_reducible refine (same_self A1 A c1 c l l.length l.length _ ro rl hlM rfl rfl).mono ?_
      rintro e w2 ⟨rfl, hb2⟩
      go_wp2_with fail
      go_ret
      exact ⟨rfl, bt (bt hb1 hb) hb2⟩
end Go.Proofs.YtahfippapknolaaDoor
