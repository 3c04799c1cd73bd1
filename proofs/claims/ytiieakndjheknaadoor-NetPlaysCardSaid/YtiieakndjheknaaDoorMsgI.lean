/-
  THE WALK OF message.May.
-/
import Derived.Test.YtiieakndjheknaaDoorMsgC
import Derived.Test.YtiieakndjheknaaDoorPk6
import Derived.Test.YtiieakndjheknaaDoorMsgH
namespace Go.Proofs.YtiieakndjheknaaDoor
set_option maxRecDepth 100000
open Go.RowKit
set_option linter.unusedVariables false
set_option linter.unusedSimpArgs false
theorem msame_any (a b : Mg) (ra rb : List Rp) (la lb : List UInt8) (w : World) (hA : MgR w a ra la) (hB : MgR w b rb lb) :
    Calls Tryd.prog 31 #[.agg (mgC a).toArray, .agg (mgC b).toArray] w (RetV w (.bool (sameM a ra la b rb lb))) := by
  cases e1 : rpsEq ra rb
  · exact msame_r a b ra rb la lb w hA hB e1
  · cases e2 : eqB la lb
    · exact msame_y a b ra rb la lb w hA hB e1 e2
    · exact msame_e a b ra rb la lb w hA hB e1 e2
theorem msame_v {a b : Mg} {ra rb : List Rp} {la lb : List UInt8} {r : Bool} {w : World} (h : sameM a ra la b rb lb = r) (hA : MgR w a ra la) (hB : MgR w b rb lb) :
    Calls Tryd.prog 31 #[.agg (mgC a).toArray, .agg (mgC b).toArray] w (RetV w (.bool r)) := by
  subst h
  exact msame_any a b ra rb la lb w hA hB
theorem of_any (k : Int) (w : World) (hF : FldW w) (h0 : 0 ≤ k) (h1 : k < 256) {b : Bool} (hb : kindB k = b) {f : List UInt8} (hf : lets k = f) : Calls Tryd.prog 48 #[.int .u8 k] w (RetV w (.tuple #[.string ⟨f.toArray⟩, .bool b])) := by
  subst hb hf
  cases h : kindB k
  · exact of_no k w h0 h1 h
  · exact of_yes k w hF h
theorem ends_v {m : Mg} {n : Int} {b : Bool} (h : endsB m n = b) (w : World) : Calls Tryd.prog 50 #[.agg (mgC m).toArray, .int .i64 n] w (RetV w (.bool b)) := by
  subst h
  exact ends_any m n w
theorem keep_v {c : Nat} {b : Bool} {t' : Mg} (hc : c ∈ [115, 111, 114, 98, 105, 122, 99, 110, 101, 108, 107, 109, 121]) {t m : Mg} {rs : List Rp} {l : List UInt8} {n : Int} {g : Nat} {w0 w : World} {L : List Item} (hb : keepB c m rs n = b) (ht : keepM c t m = t') (hN : MgN m) (hR : MgR w0 m rs l) (H : Hp w0 w (.blk g 34 (mgC t) :: L)) :
    Calls Tryd.prog 51 #[.pointer (some ⟨g, 0, none⟩), .agg (mgC m).toArray, .int .i32 (c : Int), .int .i64 n] w (RetH w0 (.blk g 34 (mgC t') :: L) (.bool b)) := by
  subst hb ht
  exact keep_any hc t m rs l n g w0 w L hN hR H
theorem keepL_snoc (f : List UInt8) (k : Nat) (h : k < f.length) (t m : Mg) : keepM f[k].toNat (keepL (f.take k) t m) m = keepL (f.take (k + 1)) t m := by
  rw [List.take_succ_eq_append_getElem h]
  unfold keepL
  rw [List.foldl_append]
  rfl
theorem all_get {f : List UInt8} {p : UInt8 → Bool} (h : ∀ i (h : i < f.length), p f[i] = true) : f.all p = true := by
  rw [List.all_eq_true]
  intro c hc
  obtain ⟨i, hi, rfl⟩ := List.getElem_of_mem hc
  exact h i hi
theorem all_no {f : List UInt8} {p : UInt8 → Bool} {i : Nat} (hi : i < f.length) (h : p f[i] = false) : f.all p = false := by
  cases e : f.all p
  · rfl
  · rw [List.all_eq_true.1 e _ (List.getElem_mem hi)] at h; cases h
theorem Hp.iter {w0 w : World} {L : List Item} (H : Hp w0 w L) (i : Nat) {g : Nat} {f : List UInt8} {k : Nat} (hL : L[i]? = some (itS g f k)) : w.iterPos g = k := by
  have := H.obO i hL
  unfold World.iterPos
  rw [this]
/-- the loop's relation -/
def LRel (w : World) (m : Mg) (rs : List Rp) (n : Int) (f : List UInt8) (git gb gm : Nat) (wr : World) : Prop :=
  ∃ k : Nat, k ≤ f.length ∧ (∀ i (h : i < f.length), i < k → keepB f[i].toNat m rs n = true) ∧ Hp w wr [itS git f k, .blk gb 34 (mgC (keepL (f.take k) (bare0 m) m)), .blk gm 34 (mgC m)]
theorem b_ms3 (k a b : Int) : Tryd.prog.built 34 [(0, .int .u8 k), (1, .int .i64 a), (2, .int .i64 b)] = some (mgC { mg0 with k := k, fr := a, to := b }).toArray := by kernel_rfl
set_option maxHeartbeats 4000000 in
theorem may_in (m : Mg) (rs : List Rp) (l : List UInt8) (n : Int) (w : World) (hF : FldW w) (hN : MgN m) (hR : MgR w m rs l) :
    Calls Tryd.prog 36 #[.agg (mgC m).toArray, .int .i64 n] w (RetV w (.bool (mayM m rs l n))) := by
  have hu : 0 ≤ m.k ∧ m.k < 256 := hN.1
  obtain ⟨f, hf⟩ : ∃ f, lets m.k = f := ⟨_, rfl⟩
  have hcr0 : ∀ b, crowdB n = b → bmayB 0 0 n = b := fun b h => by unfold bmayB; rw [if_pos (show balEq 0 0 0 0 = true from rfl), h]
  cases hbk : kindB m.k
  · have H := Hp.nil w
    have hcr := True.intro
    have hen := True.intro
    go_enter Tryd.func36, Tryd.ntmps36; go_wp2_with (first | ((with_reducible refine Hp.box H ?_); (first | refine ⟨rfl, mgC m, rfl, ?_⟩); (clear H; intro gm w1 H); go_frame) | ((with_reducible refine Hp.allo H ?_); refine ⟨rfl, ?_⟩; refine ⟨_, z_look rfl, ?_⟩; (clear H; intro gb w1 H); go_frame) | ((with_reducible refine Hp.ld H ?_); refine ⟨rfl, ?_⟩; refine ⟨c_look rfl, ?_⟩; refine ⟨_, _, rfl, ?_⟩; (first | refine ⟨_, _, _, .z, ?_⟩ | refine ⟨_, _, _, .s .z, ?_⟩ | refine ⟨_, _, _, .s (.s .z), ?_⟩); refine ⟨_, rfl, ?_⟩; go_frame) | ((with_reducible refine Hp.lda H ?_); refine ⟨rfl, by kernel_rfl, ?_⟩; refine ⟨_, s_look rfl, ?_⟩; refine ⟨_, rfl, ?_⟩; (first | refine ⟨_, _, _, .z, ?_⟩ | refine ⟨_, _, _, .s .z, ?_⟩ | refine ⟨_, _, _, .s (.s .z), ?_⟩); refine ⟨rfl, ?_⟩; go_frame) | ((with_reducible refine Hp.lds H ?_); refine ⟨rfl, by kernel_rfl, ?_⟩; refine ⟨_, s_look rfl, ?_⟩; refine ⟨_, _, rfl, ?_⟩; (first | refine ⟨_, _, _, .z, ?_⟩ | refine ⟨_, _, _, .s .z, ?_⟩ | refine ⟨_, _, _, .s (.s .z), ?_⟩); (first | refine ⟨[_, _], rfl, rfl, ?_⟩ | refine ⟨[_, _, _, _], rfl, rfl, ?_⟩ | refine ⟨[_, _, _, _, _, _, _], rfl, rfl, ?_⟩ | refine ⟨[_, _, _], rfl, rfl, ?_⟩ | (fail)); go_frame) | ((with_reducible refine Hp.sta H ?_); refine ⟨rfl, ?_⟩; refine ⟨_, s_look rfl, ?_⟩; refine ⟨_, rfl, _, rfl, rfl, ?_⟩; (first | refine ⟨_, _, _, .z, ?_⟩ | refine ⟨_, _, _, .s .z, ?_⟩ | refine ⟨_, _, _, .s (.s .z), ?_⟩); refine ⟨rfl, rfl, ?_⟩; (clear H; intro w1 H; simp only [List.set] at H); go_frame) | ((with_reducible refine Hp.str H ?_); refine ⟨rfl, ?_⟩; refine ⟨_, s_look rfl, ?_⟩; refine ⟨_, _, rfl, _, rfl, rfl, ?_⟩; (first | refine ⟨_, _, _, .z, ?_⟩ | refine ⟨_, _, _, .s .z, ?_⟩ | refine ⟨_, _, _, .s (.s .z), ?_⟩); refine ⟨rfl, _, rfl, _, rfl, Nat.le_of_ble_eq_true rfl, ?_⟩; (clear H; intro w1 H; simp only [List.set] at H); go_frame) | ((with_reducible refine Hp.bdl (t := 34) (parts := [_, _, _]) H ?_); refine ⟨rfl, mgC (bare0 m), b_ms3 _ _ _, ?_⟩; go_frame) | ((with_reducible refine Hp.bdl (t := 23) (parts := []) H ?_); refine ⟨rfl, _, b_ba0, ?_⟩; go_frame) | ((with_reducible refine (of_any _ _ (hF.below H.below) hu.1 hu.2 hbk hf).mono ?_); rintro _ w1 ⟨rfl, hb⟩; replace H := H.call hb; clear hb) | ((with_reducible refine (bmay_v hcr _).mono ?_); rintro _ w1 ⟨rfl, hb⟩; replace H := H.call hb; clear hb) | ((with_reducible refine (ends_v hen _).mono ?_); rintro _ w1 ⟨rfl, hb⟩; replace H := H.call hb; clear hb) | ((with_reducible refine Hp.rngS H (by kernel_rfl) ?_); refine ⟨rfl, f, rfl, ?_⟩; (clear H; intro git w1 H); go_frame))
    go_ret
    exact ⟨ret_bool (by unfold mayM; rw [hbk]; rfl), H.below⟩
  cases hc1 : crowdB n
  · have hcr := hcr0 _ hc1
    have H := Hp.nil w
    have hen := True.intro
    go_enter Tryd.func36, Tryd.ntmps36; go_wp2_with (first | ((with_reducible refine Hp.box H ?_); (first | refine ⟨rfl, mgC m, rfl, ?_⟩); (clear H; intro gm w1 H); go_frame) | ((with_reducible refine Hp.allo H ?_); refine ⟨rfl, ?_⟩; refine ⟨_, z_look rfl, ?_⟩; (clear H; intro gb w1 H); go_frame) | ((with_reducible refine Hp.ld H ?_); refine ⟨rfl, ?_⟩; refine ⟨c_look rfl, ?_⟩; refine ⟨_, _, rfl, ?_⟩; (first | refine ⟨_, _, _, .z, ?_⟩ | refine ⟨_, _, _, .s .z, ?_⟩ | refine ⟨_, _, _, .s (.s .z), ?_⟩); refine ⟨_, rfl, ?_⟩; go_frame) | ((with_reducible refine Hp.lda H ?_); refine ⟨rfl, by kernel_rfl, ?_⟩; refine ⟨_, s_look rfl, ?_⟩; refine ⟨_, rfl, ?_⟩; (first | refine ⟨_, _, _, .z, ?_⟩ | refine ⟨_, _, _, .s .z, ?_⟩ | refine ⟨_, _, _, .s (.s .z), ?_⟩); refine ⟨rfl, ?_⟩; go_frame) | ((with_reducible refine Hp.lds H ?_); refine ⟨rfl, by kernel_rfl, ?_⟩; refine ⟨_, s_look rfl, ?_⟩; refine ⟨_, _, rfl, ?_⟩; (first | refine ⟨_, _, _, .z, ?_⟩ | refine ⟨_, _, _, .s .z, ?_⟩ | refine ⟨_, _, _, .s (.s .z), ?_⟩); (first | refine ⟨[_, _], rfl, rfl, ?_⟩ | refine ⟨[_, _, _, _], rfl, rfl, ?_⟩ | refine ⟨[_, _, _, _, _, _, _], rfl, rfl, ?_⟩ | refine ⟨[_, _, _], rfl, rfl, ?_⟩ | (fail)); go_frame) | ((with_reducible refine Hp.sta H ?_); refine ⟨rfl, ?_⟩; refine ⟨_, s_look rfl, ?_⟩; refine ⟨_, rfl, _, rfl, rfl, ?_⟩; (first | refine ⟨_, _, _, .z, ?_⟩ | refine ⟨_, _, _, .s .z, ?_⟩ | refine ⟨_, _, _, .s (.s .z), ?_⟩); refine ⟨rfl, rfl, ?_⟩; (clear H; intro w1 H; simp only [List.set] at H); go_frame) | ((with_reducible refine Hp.str H ?_); refine ⟨rfl, ?_⟩; refine ⟨_, s_look rfl, ?_⟩; refine ⟨_, _, rfl, _, rfl, rfl, ?_⟩; (first | refine ⟨_, _, _, .z, ?_⟩ | refine ⟨_, _, _, .s .z, ?_⟩ | refine ⟨_, _, _, .s (.s .z), ?_⟩); refine ⟨rfl, _, rfl, _, rfl, Nat.le_of_ble_eq_true rfl, ?_⟩; (clear H; intro w1 H; simp only [List.set] at H); go_frame) | ((with_reducible refine Hp.bdl (t := 34) (parts := [_, _, _]) H ?_); refine ⟨rfl, mgC (bare0 m), b_ms3 _ _ _, ?_⟩; go_frame) | ((with_reducible refine Hp.bdl (t := 23) (parts := []) H ?_); refine ⟨rfl, _, b_ba0, ?_⟩; go_frame) | ((with_reducible refine (of_any _ _ (hF.below H.below) hu.1 hu.2 hbk hf).mono ?_); rintro _ w1 ⟨rfl, hb⟩; replace H := H.call hb; clear hb) | ((with_reducible refine (bmay_v hcr _).mono ?_); rintro _ w1 ⟨rfl, hb⟩; replace H := H.call hb; clear hb) | ((with_reducible refine (ends_v hen _).mono ?_); rintro _ w1 ⟨rfl, hb⟩; replace H := H.call hb; clear hb) | ((with_reducible refine Hp.rngS H (by kernel_rfl) ?_); refine ⟨rfl, f, rfl, ?_⟩; (clear H; intro git w1 H); go_frame))
    go_ret
    exact ⟨ret_bool (by unfold mayM; rw [hbk, hc1]; rfl), H.below⟩
  have hcr := hcr0 _ hc1
  clear hcr0
  cases hen : endsB m n
  · have H := Hp.nil w
    go_enter Tryd.func36, Tryd.ntmps36; go_wp2_with (first | ((with_reducible refine Hp.box H ?_); (first | refine ⟨rfl, mgC m, rfl, ?_⟩); (clear H; intro gm w1 H); go_frame) | ((with_reducible refine Hp.allo H ?_); refine ⟨rfl, ?_⟩; refine ⟨_, z_look rfl, ?_⟩; (clear H; intro gb w1 H); go_frame) | ((with_reducible refine Hp.ld H ?_); refine ⟨rfl, ?_⟩; refine ⟨c_look rfl, ?_⟩; refine ⟨_, _, rfl, ?_⟩; (first | refine ⟨_, _, _, .z, ?_⟩ | refine ⟨_, _, _, .s .z, ?_⟩ | refine ⟨_, _, _, .s (.s .z), ?_⟩); refine ⟨_, rfl, ?_⟩; go_frame) | ((with_reducible refine Hp.lda H ?_); refine ⟨rfl, by kernel_rfl, ?_⟩; refine ⟨_, s_look rfl, ?_⟩; refine ⟨_, rfl, ?_⟩; (first | refine ⟨_, _, _, .z, ?_⟩ | refine ⟨_, _, _, .s .z, ?_⟩ | refine ⟨_, _, _, .s (.s .z), ?_⟩); refine ⟨rfl, ?_⟩; go_frame) | ((with_reducible refine Hp.lds H ?_); refine ⟨rfl, by kernel_rfl, ?_⟩; refine ⟨_, s_look rfl, ?_⟩; refine ⟨_, _, rfl, ?_⟩; (first | refine ⟨_, _, _, .z, ?_⟩ | refine ⟨_, _, _, .s .z, ?_⟩ | refine ⟨_, _, _, .s (.s .z), ?_⟩); (first | refine ⟨[_, _], rfl, rfl, ?_⟩ | refine ⟨[_, _, _, _], rfl, rfl, ?_⟩ | refine ⟨[_, _, _, _, _, _, _], rfl, rfl, ?_⟩ | refine ⟨[_, _, _], rfl, rfl, ?_⟩ | (fail)); go_frame) | ((with_reducible refine Hp.sta H ?_); refine ⟨rfl, ?_⟩; refine ⟨_, s_look rfl, ?_⟩; refine ⟨_, rfl, _, rfl, rfl, ?_⟩; (first | refine ⟨_, _, _, .z, ?_⟩ | refine ⟨_, _, _, .s .z, ?_⟩ | refine ⟨_, _, _, .s (.s .z), ?_⟩); refine ⟨rfl, rfl, ?_⟩; (clear H; intro w1 H; simp only [List.set] at H); go_frame) | ((with_reducible refine Hp.str H ?_); refine ⟨rfl, ?_⟩; refine ⟨_, s_look rfl, ?_⟩; refine ⟨_, _, rfl, _, rfl, rfl, ?_⟩; (first | refine ⟨_, _, _, .z, ?_⟩ | refine ⟨_, _, _, .s .z, ?_⟩ | refine ⟨_, _, _, .s (.s .z), ?_⟩); refine ⟨rfl, _, rfl, _, rfl, Nat.le_of_ble_eq_true rfl, ?_⟩; (clear H; intro w1 H; simp only [List.set] at H); go_frame) | ((with_reducible refine Hp.bdl (t := 34) (parts := [_, _, _]) H ?_); refine ⟨rfl, mgC (bare0 m), b_ms3 _ _ _, ?_⟩; go_frame) | ((with_reducible refine Hp.bdl (t := 23) (parts := []) H ?_); refine ⟨rfl, _, b_ba0, ?_⟩; go_frame) | ((with_reducible refine (of_any _ _ (hF.below H.below) hu.1 hu.2 hbk hf).mono ?_); rintro _ w1 ⟨rfl, hb⟩; replace H := H.call hb; clear hb) | ((with_reducible refine (bmay_v hcr _).mono ?_); rintro _ w1 ⟨rfl, hb⟩; replace H := H.call hb; clear hb) | ((with_reducible refine (ends_v hen _).mono ?_); rintro _ w1 ⟨rfl, hb⟩; replace H := H.call hb; clear hb) | ((with_reducible refine Hp.rngS H (by kernel_rfl) ?_); refine ⟨rfl, f, rfl, ?_⟩; (clear H; intro git w1 H); go_frame))
    go_ret
    exact ⟨ret_bool (by unfold mayM; rw [hbk, hc1, hen]; rfl), H.below⟩
  have H := Hp.nil w
  go_enter Tryd.func36, Tryd.ntmps36; go_wp2_with (first | ((with_reducible refine Hp.box H ?_); (first | refine ⟨rfl, mgC m, rfl, ?_⟩); (clear H; intro gm w1 H); go_frame) | ((with_reducible refine Hp.allo H ?_); refine ⟨rfl, ?_⟩; refine ⟨_, z_look rfl, ?_⟩; (clear H; intro gb w1 H); go_frame) | ((with_reducible refine Hp.ld H ?_); refine ⟨rfl, ?_⟩; refine ⟨c_look rfl, ?_⟩; refine ⟨_, _, rfl, ?_⟩; (first | refine ⟨_, _, _, .z, ?_⟩ | refine ⟨_, _, _, .s .z, ?_⟩ | refine ⟨_, _, _, .s (.s .z), ?_⟩); refine ⟨_, rfl, ?_⟩; go_frame) | ((with_reducible refine Hp.lda H ?_); refine ⟨rfl, by kernel_rfl, ?_⟩; refine ⟨_, s_look rfl, ?_⟩; refine ⟨_, rfl, ?_⟩; (first | refine ⟨_, _, _, .z, ?_⟩ | refine ⟨_, _, _, .s .z, ?_⟩ | refine ⟨_, _, _, .s (.s .z), ?_⟩); refine ⟨rfl, ?_⟩; go_frame) | ((with_reducible refine Hp.lds H ?_); refine ⟨rfl, by kernel_rfl, ?_⟩; refine ⟨_, s_look rfl, ?_⟩; refine ⟨_, _, rfl, ?_⟩; (first | refine ⟨_, _, _, .z, ?_⟩ | refine ⟨_, _, _, .s .z, ?_⟩ | refine ⟨_, _, _, .s (.s .z), ?_⟩); (first | refine ⟨[_, _], rfl, rfl, ?_⟩ | refine ⟨[_, _, _, _], rfl, rfl, ?_⟩ | refine ⟨[_, _, _, _, _, _, _], rfl, rfl, ?_⟩ | refine ⟨[_, _, _], rfl, rfl, ?_⟩ | (fail)); go_frame) | ((with_reducible refine Hp.sta H ?_); refine ⟨rfl, ?_⟩; refine ⟨_, s_look rfl, ?_⟩; refine ⟨_, rfl, _, rfl, rfl, ?_⟩; (first | refine ⟨_, _, _, .z, ?_⟩ | refine ⟨_, _, _, .s .z, ?_⟩ | refine ⟨_, _, _, .s (.s .z), ?_⟩); refine ⟨rfl, rfl, ?_⟩; (clear H; intro w1 H; simp only [List.set] at H); go_frame) | ((with_reducible refine Hp.str H ?_); refine ⟨rfl, ?_⟩; refine ⟨_, s_look rfl, ?_⟩; refine ⟨_, _, rfl, _, rfl, rfl, ?_⟩; (first | refine ⟨_, _, _, .z, ?_⟩ | refine ⟨_, _, _, .s .z, ?_⟩ | refine ⟨_, _, _, .s (.s .z), ?_⟩); refine ⟨rfl, _, rfl, _, rfl, Nat.le_of_ble_eq_true rfl, ?_⟩; (clear H; intro w1 H; simp only [List.set] at H); go_frame) | ((with_reducible refine Hp.bdl (t := 34) (parts := [_, _, _]) H ?_); refine ⟨rfl, mgC (bare0 m), b_ms3 _ _ _, ?_⟩; go_frame) | ((with_reducible refine Hp.bdl (t := 23) (parts := []) H ?_); refine ⟨rfl, _, b_ba0, ?_⟩; go_frame) | ((with_reducible refine (of_any _ _ (hF.below H.below) hu.1 hu.2 hbk hf).mono ?_); rintro _ w1 ⟨rfl, hb⟩; replace H := H.call hb; clear hb) | ((with_reducible refine (bmay_v hcr _).mono ?_); rintro _ w1 ⟨rfl, hb⟩; replace H := H.call hb; clear hb) | ((with_reducible refine (ends_v hen _).mono ?_); rintro _ w1 ⟨rfl, hb⟩; replace H := H.call hb; clear hb) | ((with_reducible refine Hp.rngS H (by kernel_rfl) ?_); refine ⟨rfl, f, rfl, ?_⟩; (clear H; intro git w1 H); go_frame))
  have hat : LRel w m rs n f git gb gm w1 := ⟨0, Nat.zero_le _, fun i _ h => absurd h (by omega), H⟩
  clear H
  go_loopw [9] (fun _ wr => LRel w m rs n f git gb gm wr) (fun _ wr => f.length - wr.iterPos git)
  case atStart => exact hat
  case round =>
    clear hat
    obtain ⟨k, hk, hall, H⟩ := hrel
    have HA := Lib.hid hall
    clear hall
    by_cases hlt : k < f.length
    · obtain ⟨h128, hmem⟩ := lets_all m.k f[k] (by rw [hf]; exact List.getElem_mem hlt)
      have hpos := H.iter 0 rfl
      have HPOS := Lib.hid hpos
      have hst := keepL_snoc f k hlt (bare0 m) m
      have HST := Lib.hid hst
      clear hpos hst
      cases hkb : keepB f[k].toNat m rs n
      · go_wp2_with (first | ((with_reducible refine Hp.box H ?_); (first | refine ⟨rfl, mgC m, rfl, ?_⟩); (clear H; intro gm w1 H); go_frame) | ((with_reducible refine Hp.allo H ?_); refine ⟨rfl, ?_⟩; refine ⟨_, z_look rfl, ?_⟩; (clear H; intro gb w1 H); go_frame) | ((with_reducible refine Hp.ld H ?_); refine ⟨rfl, ?_⟩; refine ⟨c_look rfl, ?_⟩; refine ⟨_, _, rfl, ?_⟩; (first | refine ⟨_, _, _, .z, ?_⟩ | refine ⟨_, _, _, .s .z, ?_⟩ | refine ⟨_, _, _, .s (.s .z), ?_⟩); refine ⟨_, rfl, ?_⟩; go_frame) | ((with_reducible refine Hp.lda H ?_); refine ⟨rfl, by kernel_rfl, ?_⟩; refine ⟨_, s_look rfl, ?_⟩; refine ⟨_, rfl, ?_⟩; (first | refine ⟨_, _, _, .z, ?_⟩ | refine ⟨_, _, _, .s .z, ?_⟩ | refine ⟨_, _, _, .s (.s .z), ?_⟩); refine ⟨rfl, ?_⟩; go_frame) | ((with_reducible refine Hp.lds H ?_); refine ⟨rfl, by kernel_rfl, ?_⟩; refine ⟨_, s_look rfl, ?_⟩; refine ⟨_, _, rfl, ?_⟩; (first | refine ⟨_, _, _, .z, ?_⟩ | refine ⟨_, _, _, .s .z, ?_⟩ | refine ⟨_, _, _, .s (.s .z), ?_⟩); (first | refine ⟨[_, _], rfl, rfl, ?_⟩ | refine ⟨[_, _, _, _], rfl, rfl, ?_⟩ | refine ⟨[_, _, _, _, _, _, _], rfl, rfl, ?_⟩ | refine ⟨[_, _, _], rfl, rfl, ?_⟩ | (fail)); go_frame) | ((with_reducible refine Hp.sta H ?_); refine ⟨rfl, ?_⟩; refine ⟨_, s_look rfl, ?_⟩; refine ⟨_, rfl, _, rfl, rfl, ?_⟩; (first | refine ⟨_, _, _, .z, ?_⟩ | refine ⟨_, _, _, .s .z, ?_⟩ | refine ⟨_, _, _, .s (.s .z), ?_⟩); refine ⟨rfl, rfl, ?_⟩; (clear H; intro w1 H; simp only [List.set] at H); go_frame) | ((with_reducible refine Hp.str H ?_); refine ⟨rfl, ?_⟩; refine ⟨_, s_look rfl, ?_⟩; refine ⟨_, _, rfl, _, rfl, rfl, ?_⟩; (first | refine ⟨_, _, _, .z, ?_⟩ | refine ⟨_, _, _, .s .z, ?_⟩ | refine ⟨_, _, _, .s (.s .z), ?_⟩); refine ⟨rfl, _, rfl, _, rfl, Nat.le_of_ble_eq_true rfl, ?_⟩; (clear H; intro w1 H; simp only [List.set] at H); go_frame) | ((with_reducible refine Hp.bdl (t := 34) (parts := [_, _, _]) H ?_); refine ⟨rfl, mgC (bare0 m), b_ms3 _ _ _, ?_⟩; go_frame) | ((with_reducible refine Hp.bdl (t := 23) (parts := []) H ?_); refine ⟨rfl, _, b_ba0, ?_⟩; go_frame) | ((with_reducible refine Hp.nxtS H ?_); refine ⟨rfl, _, rfl, 0, _, _, rfl, hlt, h128, ?_⟩; (clear H; intro w1 H; simp only [List.set_cons_zero] at H); go_frame) | ((with_reducible refine (keep_v hmem hkb rfl hN hR H.rot2).mono ?_); rintro _ w1 ⟨rfl, HQ⟩; replace H := HQ.rot2; clear HQ))
        go_ret
        refine ⟨ret_bool ?_, H.below⟩
        have : (lets m.k).all (fun c => keepB c.toNat m rs n) = false := by rw [hf]; exact all_no hlt hkb
        unfold mayM
        rw [this]
        simp
      · go_wp2_with (first | ((with_reducible refine Hp.box H ?_); (first | refine ⟨rfl, mgC m, rfl, ?_⟩); (clear H; intro gm w1 H); go_frame) | ((with_reducible refine Hp.allo H ?_); refine ⟨rfl, ?_⟩; refine ⟨_, z_look rfl, ?_⟩; (clear H; intro gb w1 H); go_frame) | ((with_reducible refine Hp.ld H ?_); refine ⟨rfl, ?_⟩; refine ⟨c_look rfl, ?_⟩; refine ⟨_, _, rfl, ?_⟩; (first | refine ⟨_, _, _, .z, ?_⟩ | refine ⟨_, _, _, .s .z, ?_⟩ | refine ⟨_, _, _, .s (.s .z), ?_⟩); refine ⟨_, rfl, ?_⟩; go_frame) | ((with_reducible refine Hp.lda H ?_); refine ⟨rfl, by kernel_rfl, ?_⟩; refine ⟨_, s_look rfl, ?_⟩; refine ⟨_, rfl, ?_⟩; (first | refine ⟨_, _, _, .z, ?_⟩ | refine ⟨_, _, _, .s .z, ?_⟩ | refine ⟨_, _, _, .s (.s .z), ?_⟩); refine ⟨rfl, ?_⟩; go_frame) | ((with_reducible refine Hp.lds H ?_); refine ⟨rfl, by kernel_rfl, ?_⟩; refine ⟨_, s_look rfl, ?_⟩; refine ⟨_, _, rfl, ?_⟩; (first | refine ⟨_, _, _, .z, ?_⟩ | refine ⟨_, _, _, .s .z, ?_⟩ | refine ⟨_, _, _, .s (.s .z), ?_⟩); (first | refine ⟨[_, _], rfl, rfl, ?_⟩ | refine ⟨[_, _, _, _], rfl, rfl, ?_⟩ | refine ⟨[_, _, _, _, _, _, _], rfl, rfl, ?_⟩ | refine ⟨[_, _, _], rfl, rfl, ?_⟩ | (fail)); go_frame) | ((with_reducible refine Hp.sta H ?_); refine ⟨rfl, ?_⟩; refine ⟨_, s_look rfl, ?_⟩; refine ⟨_, rfl, _, rfl, rfl, ?_⟩; (first | refine ⟨_, _, _, .z, ?_⟩ | refine ⟨_, _, _, .s .z, ?_⟩ | refine ⟨_, _, _, .s (.s .z), ?_⟩); refine ⟨rfl, rfl, ?_⟩; (clear H; intro w1 H; simp only [List.set] at H); go_frame) | ((with_reducible refine Hp.str H ?_); refine ⟨rfl, ?_⟩; refine ⟨_, s_look rfl, ?_⟩; refine ⟨_, _, rfl, _, rfl, rfl, ?_⟩; (first | refine ⟨_, _, _, .z, ?_⟩ | refine ⟨_, _, _, .s .z, ?_⟩ | refine ⟨_, _, _, .s (.s .z), ?_⟩); refine ⟨rfl, _, rfl, _, rfl, Nat.le_of_ble_eq_true rfl, ?_⟩; (clear H; intro w1 H; simp only [List.set] at H); go_frame) | ((with_reducible refine Hp.bdl (t := 34) (parts := [_, _, _]) H ?_); refine ⟨rfl, mgC (bare0 m), b_ms3 _ _ _, ?_⟩; go_frame) | ((with_reducible refine Hp.bdl (t := 23) (parts := []) H ?_); refine ⟨rfl, _, b_ba0, ?_⟩; go_frame) | ((with_reducible refine Hp.nxtS H ?_); refine ⟨rfl, _, rfl, 0, _, _, rfl, hlt, h128, ?_⟩; (clear H; intro w1 H; simp only [List.set_cons_zero] at H); go_frame) | ((with_reducible refine (keep_v hmem hkb rfl hN hR H.rot2).mono ?_); rintro _ w1 ⟨rfl, HQ⟩; replace H := HQ.rot2; clear HQ))
        rw [HST.out] at H
        have hpos2 := H.iter 0 rfl
        go_roundw
        case rel =>
          refine ⟨k + 1, hlt, fun i h hi => ?_, H⟩
          by_cases hik : i < k
          · exact HA.out i h hik
          · obtain rfl : i = k := by omega
            exact hkb
        case measure => rw [HPOS.out, hpos2]; omega
    · obtain rfl : k = f.length := by omega
      have hfin : keepL (f.take f.length) (bare0 m) m = bareM m := by rw [List.take_length, ← hf]; rfl
      rw [hfin] at H
      have hall : (lets m.k).all (fun c => keepB c.toNat m rs n) = true := by rw [hf]; exact all_get (fun i h => HA.out i h h)
      have HALL := Lib.hid hall
      clear hall hfin
      cases hsa : sameM (bareM m) (bareR m rs) (bareY m l) m rs l
      all_goals
        go_wp2_with (first | ((with_reducible refine Hp.box H ?_); (first | refine ⟨rfl, mgC m, rfl, ?_⟩); (clear H; intro gm w1 H); go_frame) | ((with_reducible refine Hp.allo H ?_); refine ⟨rfl, ?_⟩; refine ⟨_, z_look rfl, ?_⟩; (clear H; intro gb w1 H); go_frame) | ((with_reducible refine Hp.ld H ?_); refine ⟨rfl, ?_⟩; refine ⟨c_look rfl, ?_⟩; refine ⟨_, _, rfl, ?_⟩; (first | refine ⟨_, _, _, .z, ?_⟩ | refine ⟨_, _, _, .s .z, ?_⟩ | refine ⟨_, _, _, .s (.s .z), ?_⟩); refine ⟨_, rfl, ?_⟩; go_frame) | ((with_reducible refine Hp.lda H ?_); refine ⟨rfl, by kernel_rfl, ?_⟩; refine ⟨_, s_look rfl, ?_⟩; refine ⟨_, rfl, ?_⟩; (first | refine ⟨_, _, _, .z, ?_⟩ | refine ⟨_, _, _, .s .z, ?_⟩ | refine ⟨_, _, _, .s (.s .z), ?_⟩); refine ⟨rfl, ?_⟩; go_frame) | ((with_reducible refine Hp.lds H ?_); refine ⟨rfl, by kernel_rfl, ?_⟩; refine ⟨_, s_look rfl, ?_⟩; refine ⟨_, _, rfl, ?_⟩; (first | refine ⟨_, _, _, .z, ?_⟩ | refine ⟨_, _, _, .s .z, ?_⟩ | refine ⟨_, _, _, .s (.s .z), ?_⟩); (first | refine ⟨[_, _], rfl, rfl, ?_⟩ | refine ⟨[_, _, _, _], rfl, rfl, ?_⟩ | refine ⟨[_, _, _, _, _, _, _], rfl, rfl, ?_⟩ | refine ⟨[_, _, _], rfl, rfl, ?_⟩ | (fail)); go_frame) | ((with_reducible refine Hp.sta H ?_); refine ⟨rfl, ?_⟩; refine ⟨_, s_look rfl, ?_⟩; refine ⟨_, rfl, _, rfl, rfl, ?_⟩; (first | refine ⟨_, _, _, .z, ?_⟩ | refine ⟨_, _, _, .s .z, ?_⟩ | refine ⟨_, _, _, .s (.s .z), ?_⟩); refine ⟨rfl, rfl, ?_⟩; (clear H; intro w1 H; simp only [List.set] at H); go_frame) | ((with_reducible refine Hp.str H ?_); refine ⟨rfl, ?_⟩; refine ⟨_, s_look rfl, ?_⟩; refine ⟨_, _, rfl, _, rfl, rfl, ?_⟩; (first | refine ⟨_, _, _, .z, ?_⟩ | refine ⟨_, _, _, .s .z, ?_⟩ | refine ⟨_, _, _, .s (.s .z), ?_⟩); refine ⟨rfl, _, rfl, _, rfl, Nat.le_of_ble_eq_true rfl, ?_⟩; (clear H; intro w1 H; simp only [List.set] at H); go_frame) | ((with_reducible refine Hp.bdl (t := 34) (parts := [_, _, _]) H ?_); refine ⟨rfl, mgC (bare0 m), b_ms3 _ _ _, ?_⟩; go_frame) | ((with_reducible refine Hp.bdl (t := 23) (parts := []) H ?_); refine ⟨rfl, _, b_ba0, ?_⟩; go_frame) | ((with_reducible refine Hp.nxtE H ?_); refine ⟨rfl, _, rfl, 0, _, _, rfl, rfl, ?_⟩; go_frame) | ((with_reducible refine (msame_v hsa ((bare_r hR).below H.below) (hR.below H.below)).mono ?_); rintro _ w1 ⟨rfl, hb⟩; replace H := H.call hb; clear hb))
        go_ret
        refine ⟨ret_bool ?_, H.below⟩
        unfold mayM
        rw [hbk, hc1, hen, HALL.out, hsa]
        rfl
theorem may_v {m : Mg} {rs : List Rp} {l : List UInt8} {n : Int} {b : Bool} {w : World} (h : mayM m rs l n = b) (hF : FldW w) (hN : MgN m) (hR : MgR w m rs l) :
    Calls Tryd.prog 36 #[.agg (mgC m).toArray, .int .i64 n] w (RetV w (.bool b)) := by
  subst h
  exact may_in m rs l n w hF hN hR
end Go.Proofs.YtiieakndjheknaaDoor
