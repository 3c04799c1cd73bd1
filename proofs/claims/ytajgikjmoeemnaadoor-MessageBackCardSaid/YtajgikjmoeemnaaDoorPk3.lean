import Derived.Test.YtajgikjmoeemnaaDoorPk2
import Derived.IntWalk
import Derived.Test.YtajgikjmoeemnaaDoorPk1
/-
  THE WALKS OF entry's MayOp, May, ballot.
-/
namespace Go.Proofs.YtajgikjmoeemnaaDoor
set_option maxRecDepth 100000
open Go.RowKit
set_option linter.unusedVariables false
set_option linter.unusedSimpArgs false

set_option maxHeartbeats 2000000 in
theorem mayOp_any (k : Int) (s0 s1 s2 : ByteArray) (w : World) (h0 : s0.size ≤ maxLen) (h1 : s1.size ≤ maxLen) (h2 : s2.size ≤ maxLen) : Calls Tryd.prog 80 #[.agg (opC k s0 s1 s2).toArray] w (RetV w (.bool (mayOpB k s0 s1 s2))) := by
  have H := Hp.nil w
  unfold maxLen at h0 h1 h2
  have hk : k = 1 ∨ k = 2 ∨ k = 3 ∨ k = 4 ∨ ((k == 1) = false ∧ (k == 2) = false ∧ (k == 3) = false ∧ (k == 4) = false) := by simp only [beq_eq_false_iff_ne]; omega
  rcases hk with rfl | rfl | rfl | rfl | ⟨k1, k2, k3, k4⟩
  all_goals
    go_enter Tryd.func80, Tryd.ntmps80
    go_wp2_with (first | ((with_reducible refine Hp.box H ?_); (first | refine ⟨rfl, [.pointer _], rfl, ?_⟩ | refine ⟨rfl, [.int _ _], rfl, ?_⟩ | refine ⟨rfl, [.slice _ _ _], rfl, ?_⟩ | refine ⟨rfl, [.bool _], rfl, ?_⟩ | refine ⟨rfl, [.string _], rfl, ?_⟩ | refine ⟨rfl, _, rfl, ?_⟩); (clear H; intro g1 w1 H); go_frame) | ((with_reducible refine Hp.ld H ?_); refine ⟨rfl, ?_⟩; refine ⟨c_look rfl, ?_⟩; refine ⟨_, _, rfl, ?_⟩; ((repeat ((fail_if_success refine ⟨_, _, _, .z, ?_⟩); refine hs ?_)); refine ⟨_, _, _, .z, ?_⟩); refine ⟨_, rfl, ?_⟩; go_frame) | (fail))
    all_goals (go_ret; refine ⟨ret_bool ?_, H.below⟩; simp only [mayOpB, mtB, *]; first | (simp [*]; done) | (simp [*]; intros; omega) | (have z1 := emp_size s1 ‹_›; simp [*]; done) | (have z2 := emp_size s2 ‹_›; simp [*]; done) | (have z1 := emp_size s1 ‹_›; exfalso; omega) | (have z2 := emp_size s2 ‹_›; simp [*]; omega) | (have z1 := emp_size s1 ‹_›; simp [*]; omega))
theorem b_noop : Tryd.prog.built 27 [(0, .int .u8 1)] = some (enC noop).toArray := by kernel_rfl
theorem mayOp_b (k : Int) (s0 s1 s2 : ByteArray) (w : World) (b : Bool) (ho : mayOpB k s0 s1 s2 = b) (h0 : s0.size ≤ maxLen) (h1 : s1.size ≤ maxLen) (h2 : s2.size ≤ maxLen) : Calls Tryd.prog 80 #[.agg (opC k s0 s1 s2).toArray] w (RetV w (.bool b)) := by
  subst ho
  exact mayOp_any k s0 s1 s2 w h0 h1 h2
/-- the texts of an entry are of a length that there is -/
def Sm (e : En) : Prop := e.s0.size ≤ maxLen ∧ e.s1.size ≤ maxLen ∧ e.s2.size ≤ maxLen
set_option maxHeartbeats 2000000 in
theorem may_any (e : En) (w : World) (hs : Sm e) : Calls Tryd.prog 60 #[.agg (enC e).toArray] w (RetV w (.bool (mayB e))) := by
  have H := Hp.nil w
  obtain ⟨h0, h1, h2⟩ := hs
  cases hk : (e.k == 1)
  · have hn : isNoop e = false := by rw [isNoop, hk]; rfl
    cases ho : mayOpB e.ok e.s0 e.s1 e.s2
    all_goals
      go_enter Tryd.func60, Tryd.ntmps60
      go_wp2_with (first | ((with_reducible refine Hp.box H ?_); (first | refine ⟨rfl, [.pointer _], rfl, ?_⟩ | refine ⟨rfl, [.int _ _], rfl, ?_⟩ | refine ⟨rfl, [.slice _ _ _], rfl, ?_⟩ | refine ⟨rfl, [.bool _], rfl, ?_⟩ | refine ⟨rfl, [.string _], rfl, ?_⟩ | refine ⟨rfl, _, rfl, ?_⟩); (clear H; intro g1 w1 H); go_frame) | ((with_reducible refine Hp.ld H ?_); refine ⟨rfl, ?_⟩; refine ⟨c_look rfl, ?_⟩; refine ⟨_, _, rfl, ?_⟩; ((repeat ((fail_if_success refine ⟨_, _, _, .z, ?_⟩); refine hs ?_)); refine ⟨_, _, _, .z, ?_⟩); refine ⟨_, rfl, ?_⟩; go_frame) | ((with_reducible refine Hp.lda H ?_); refine ⟨rfl, by kernel_rfl, ?_⟩; refine ⟨_, s_look rfl, ?_⟩; refine ⟨_, rfl, ?_⟩; ((repeat ((fail_if_success refine ⟨_, _, _, .z, ?_⟩); refine hs ?_)); refine ⟨_, _, _, .z, ?_⟩); refine ⟨rfl, ?_⟩; go_frame) | ((with_reducible refine Hp.lds H ?_); refine ⟨rfl, by kernel_rfl, ?_⟩; refine ⟨_, s_look rfl, ?_⟩; refine ⟨_, _, rfl, ?_⟩; ((repeat ((fail_if_success refine ⟨_, _, _, .z, ?_⟩); refine hs ?_)); refine ⟨_, _, _, .z, ?_⟩); refine ⟨opC e.ok e.s0 e.s1 e.s2, rfl, rfl, ?_⟩; go_frame) | ((with_reducible refine Hp.bdl (t := 27) (parts := [_]) H ?_); refine ⟨rfl, _, b_noop, ?_⟩; go_frame) | ((with_reducible refine wl_eqEn ?_); refine ⟨rfl, _, _, rfl, rfl, ?_⟩; go_frame) | ((with_reducible refine (mayOp_b _ _ _ _ _ _ ho h0 h1 h2).mono ?_); rintro _ w1 ⟨rfl, hb⟩; replace H := H.call hb; clear hb))
      all_goals (go_ret; refine ⟨ret_bool ?_, H.below⟩; rw [mayB, hn]; simp [*] <;> (first | rfl | (intros; omega)))
  · have hm : mayB e = isNoop e := by
      have : (e.k == 2) = false := by rw [beq_iff_eq] at hk; rw [hk]; rfl
      rw [mayB, this, Bool.false_and, Bool.or_false]
    go_enter Tryd.func60, Tryd.ntmps60
    go_wp2_with (first | ((with_reducible refine Hp.box H ?_); (first | refine ⟨rfl, [.pointer _], rfl, ?_⟩ | refine ⟨rfl, [.int _ _], rfl, ?_⟩ | refine ⟨rfl, [.slice _ _ _], rfl, ?_⟩ | refine ⟨rfl, [.bool _], rfl, ?_⟩ | refine ⟨rfl, [.string _], rfl, ?_⟩ | refine ⟨rfl, _, rfl, ?_⟩); (clear H; intro g1 w1 H); go_frame) | ((with_reducible refine Hp.ld H ?_); refine ⟨rfl, ?_⟩; refine ⟨c_look rfl, ?_⟩; refine ⟨_, _, rfl, ?_⟩; ((repeat ((fail_if_success refine ⟨_, _, _, .z, ?_⟩); refine hs ?_)); refine ⟨_, _, _, .z, ?_⟩); refine ⟨_, rfl, ?_⟩; go_frame) | ((with_reducible refine Hp.lda H ?_); refine ⟨rfl, by kernel_rfl, ?_⟩; refine ⟨_, s_look rfl, ?_⟩; refine ⟨_, rfl, ?_⟩; ((repeat ((fail_if_success refine ⟨_, _, _, .z, ?_⟩); refine hs ?_)); refine ⟨_, _, _, .z, ?_⟩); refine ⟨rfl, ?_⟩; go_frame) | ((with_reducible refine Hp.lds H ?_); refine ⟨rfl, by kernel_rfl, ?_⟩; refine ⟨_, s_look rfl, ?_⟩; refine ⟨_, _, rfl, ?_⟩; ((repeat ((fail_if_success refine ⟨_, _, _, .z, ?_⟩); refine hs ?_)); refine ⟨_, _, _, .z, ?_⟩); refine ⟨opC e.ok e.s0 e.s1 e.s2, rfl, rfl, ?_⟩; go_frame) | ((with_reducible refine Hp.bdl (t := 27) (parts := [_]) H ?_); refine ⟨rfl, _, b_noop, ?_⟩; go_frame) | ((with_reducible refine wl_eqEn ?_); refine ⟨rfl, _, _, rfl, rfl, ?_⟩; go_frame) | ((with_reducible refine (mayOp_b _ _ _ _ _ _ ho h0 h1 h2).mono ?_); rintro _ w1 ⟨rfl, hb⟩; replace H := H.call hb; clear hb))
    go_ret
    exact ⟨ret_bool (by rw [hm, enEq_noop]), H.below⟩
end Go.Proofs.YtajgikjmoeemnaaDoor

/-
  THE WALKS OF entry's pen: put, write, get, read.
-/
namespace Go.Proofs.YtajgikjmoeemnaaDoor
set_option maxRecDepth 100000
open Go.RowKit
set_option linter.unusedVariables false
set_option linter.unusedSimpArgs false

/-- a pen that reads -/
abbrev penR (g : Nat) (A : Option Addr) (n c : Nat) (r : Rs) : Item := .blk g 123 [.slice A n c, .int .i64 r.at_, .bool r.bad]
theorem get_r (A : Option Addr) (c : Nat) (l : List UInt8) (at_ width : Int) (w : World) (hr : Rd w A l) (hc : l.length ≤ c) (hm : c ≤ maxLen) :
    Calls Tryd.prog 65 #[.slice A l.length c, .int .i64 at_, .int .i64 width] w (RetV w (.tuple #[.int .i64 (getN l at_ width), .int .i64 (getP l at_ width), .int .i64 (getE l at_ width)])) := get_any A c l at_ width w hr hc hm
set_option maxHeartbeats 2000000 in
theorem pget_any (A : Option Addr) (c : Nat) (l : List UInt8) (r : Rs) (width : Int) (g : Nat) (w0 w : World) (L : List Item) (hr : Rd w0 A l) (hc : l.length ≤ c) (hm : c ≤ maxLen) (H : Hp w0 w (penR g A l.length c r :: L)) :
    Calls Tryd.prog 91 #[.pointer (some ⟨g, 0, none⟩), .int .i64 width] w (RetH w0 (penR g A l.length c (gR l r width) :: L) (.int .i64 (gN l r width))) := by
  obtain ⟨at_, bad⟩ := r
  cases he : (getE l at_ width != 0)
  all_goals
    cases bad
    all_goals
      go_enter Tryd.func91, Tryd.ntmps91
      go_wp2_with (first | ((with_reducible refine Hp.ld H ?_); refine ⟨rfl, ?_⟩; refine ⟨c_look rfl, ?_⟩; refine ⟨_, _, rfl, ?_⟩; ((repeat ((fail_if_success refine ⟨_, _, _, .z, ?_⟩); refine hs ?_)); refine ⟨_, _, _, .z, ?_⟩); refine ⟨_, rfl, ?_⟩; go_frame) | ((with_reducible refine Hp.stv H ?_); refine ⟨rfl, ?_⟩; refine ⟨c_look rfl, ?_⟩; (first | refine ⟨.bool _, rfl, ?_⟩ | refine ⟨.int _ _, rfl, ?_⟩ | refine ⟨.string _, rfl, ?_⟩ | refine ⟨.slice _ _ _, rfl, ?_⟩ | refine ⟨.pointer _, rfl, ?_⟩); refine ⟨rfl, _, _, rfl, ?_⟩; ((repeat ((fail_if_success refine ⟨_, _, _, .z, ?_⟩); refine hs ?_)); refine ⟨_, _, _, .z, ?_⟩); refine ⟨⟨_, rfl⟩, ?_⟩; (clear H; intro w1 H; simp only [List.set] at H); go_frame) | (fail))
      ((with_reducible refine wp_region_hpK H (by kernel_rfl) (by kernel_rfl) ?_); intro _ KQ hKQ; (repeat (first | go_big_quiet_skip | ((with_reducible refine hq_ld ?_); refine ⟨rfl, ?_⟩; refine ⟨c_look rfl, ?_⟩; refine ⟨_, _, rfl, ?_⟩; ((repeat ((fail_if_success refine ⟨_, _, _, .z, ?_⟩); refine hs ?_)); refine ⟨_, _, _, .z, ?_⟩); refine ⟨_, rfl, ?_⟩; go_frame) | (fail) | go_big_quiet_step ((first | (with_reducible exact hq_call (get_r A c l at_ width _ (HpS.rd _ hr) hc hm)))))); (with_reducible refine wpQuiet_nil (hKQ _ ?_)); clear hKQ; clear KQ H; intro w1 H)
      go_wp2_with (first | ((with_reducible refine Hp.ld H ?_); refine ⟨rfl, ?_⟩; refine ⟨c_look rfl, ?_⟩; refine ⟨_, _, rfl, ?_⟩; ((repeat ((fail_if_success refine ⟨_, _, _, .z, ?_⟩); refine hs ?_)); refine ⟨_, _, _, .z, ?_⟩); refine ⟨_, rfl, ?_⟩; go_frame) | ((with_reducible refine Hp.stv H ?_); refine ⟨rfl, ?_⟩; refine ⟨c_look rfl, ?_⟩; (first | refine ⟨.bool _, rfl, ?_⟩ | refine ⟨.int _ _, rfl, ?_⟩ | refine ⟨.string _, rfl, ?_⟩ | refine ⟨.slice _ _ _, rfl, ?_⟩ | refine ⟨.pointer _, rfl, ?_⟩); refine ⟨rfl, _, _, rfl, ?_⟩; ((repeat ((fail_if_success refine ⟨_, _, _, .z, ?_⟩); refine hs ?_)); refine ⟨_, _, _, .z, ?_⟩); refine ⟨⟨_, rfl⟩, ?_⟩; (clear H; intro w1 H; simp only [List.set] at H); go_frame) | (fail))
      go_ret
      refine ⟨ret_int ?_, ?_⟩
      · simp only [gN, gB, he]; rfl
      · simp only [gR, gB, he]; exact H
/-- its reader of texts; the text's place is a cell of the call's own -/
theorem read_s (A : Option Addr) (c : Nat) (l : List UInt8) (at_ : Int) (w : World) (hr : Rd w A l) (hc : l.length ≤ c) (hm : c ≤ maxLen) :
    Calls Tryd.prog 85 #[.slice A l.length c, .int .i64 at_] w (RetV w (.tuple #[.string (bs (readS l at_)), .int .i64 (readP l at_), .int .i64 (readE l at_)])) := read_any A c l at_ w hr hc hm
/-- what then lies where the text was to be put -/
def tV (l : List UInt8) (r : Rs) (s : ByteArray) : ByteArray := if tB l r then s else bs (tS l r)
theorem set_same {cs : List Value} {off : Nat} {v : Value} (h : cs[off]? = some v) : cs.set off v = cs := by
  obtain ⟨h1, h2⟩ := List.getElem?_eq_some_iff.1 h
  rw [← h2, List.set_getElem_self]
set_option maxHeartbeats 2000000 in
theorem pread_any (A : Option Addr) (c : Nat) (l : List UInt8) (r : Rs) (g g2 off : Nat) (t : TypeId) (cs : List Value) (s : ByteArray) (w0 w : World) (L : List Item) (hr : Rd w0 A l) (hc : l.length ≤ c) (hm : c ≤ maxLen) (H : Hp w0 w (penR g A l.length c r :: .blk g2 t cs :: L))
    (hs : cs[off]? = some (.string s)) :
    Calls Tryd.prog 93 #[.pointer (some ⟨g, 0, none⟩), .pointer (some ⟨g2, off, none⟩)] w (RetH w0 (penR g A l.length c (tR l r) :: .blk g2 t (cs.set off (.string (tV l r s))) :: L) (.tuple #[])) := by
  obtain ⟨at_, bad⟩ := r
  cases he : (readE l at_ != 0)
  all_goals
    cases bad
    all_goals
      go_enter Tryd.func93, Tryd.ntmps93
      go_wp2_with (first | ((with_reducible refine Hp.ld H ?_); refine ⟨rfl, ?_⟩; refine ⟨c_look rfl, ?_⟩; refine ⟨_, _, rfl, ?_⟩; (first | refine ⟨_, _, _, .z, ?_⟩ | refine ⟨_, _, _, .s .z, ?_⟩); refine ⟨_, rfl, ?_⟩; go_frame) | ((with_reducible refine Hp.stv H ?_); refine ⟨rfl, ?_⟩; refine ⟨c_look rfl, ?_⟩; (first | refine ⟨.bool _, rfl, ?_⟩ | refine ⟨.int _ _, rfl, ?_⟩ | refine ⟨.string _, rfl, ?_⟩ | refine ⟨.slice _ _ _, rfl, ?_⟩ | refine ⟨.pointer _, rfl, ?_⟩); refine ⟨rfl, _, _, rfl, ?_⟩; (first | refine ⟨_, _, _, .z, ?_⟩ | refine ⟨_, _, _, .s .z, ?_⟩); refine ⟨(by first | exact ⟨_, rfl⟩ | exact ⟨_, hs⟩), ?_⟩; (clear H; intro w1 H; simp only [List.set] at H); go_frame) | (fail))
      ((with_reducible refine wp_region_hpK H (by kernel_rfl) (by kernel_rfl) ?_); intro _ KQ hKQ; (repeat (first | go_big_quiet_skip | ((with_reducible refine hq_ld ?_); refine ⟨rfl, ?_⟩; refine ⟨c_look rfl, ?_⟩; refine ⟨_, _, rfl, ?_⟩; (first | refine ⟨_, _, _, .z, ?_⟩ | refine ⟨_, _, _, .s .z, ?_⟩); refine ⟨_, rfl, ?_⟩; go_frame) | (fail) | go_big_quiet_step ((first | (with_reducible exact hq_call (read_s A c l at_ _ (HpS.rd _ hr) hc hm)))))); (with_reducible refine wpQuiet_nil (hKQ _ ?_)); clear hKQ; clear KQ H; intro w1 H)
      go_wp2_with (first | ((with_reducible refine Hp.ld H ?_); refine ⟨rfl, ?_⟩; refine ⟨c_look rfl, ?_⟩; refine ⟨_, _, rfl, ?_⟩; (first | refine ⟨_, _, _, .z, ?_⟩ | refine ⟨_, _, _, .s .z, ?_⟩); refine ⟨_, rfl, ?_⟩; go_frame) | ((with_reducible refine Hp.stv H ?_); refine ⟨rfl, ?_⟩; refine ⟨c_look rfl, ?_⟩; (first | refine ⟨.bool _, rfl, ?_⟩ | refine ⟨.int _ _, rfl, ?_⟩ | refine ⟨.string _, rfl, ?_⟩ | refine ⟨.slice _ _ _, rfl, ?_⟩ | refine ⟨.pointer _, rfl, ?_⟩); refine ⟨rfl, _, _, rfl, ?_⟩; (first | refine ⟨_, _, _, .z, ?_⟩ | refine ⟨_, _, _, .s .z, ?_⟩); refine ⟨(by first | exact ⟨_, rfl⟩ | exact ⟨_, hs⟩), ?_⟩; (clear H; intro w1 H; simp only [List.set] at H); go_frame) | (fail))
      go_end0
      refine ⟨rfl, ?_⟩
      simp only [tR, tB, tV, tS, he]
      first | exact H | (rw [show (cs.set off (Value.string s)) = cs from set_same hs]; exact H) | (have := set_same hs; simp; rw [this]; exact H)
/-- a pen that writes -/
abbrev penW (g : Nat) (A : Option Addr) (c : Nat) (l : List UInt8) (at_ : Int) (bad : Bool) : Item := .blk g 123 [.slice A l.length c, .int .i64 at_, .bool bad]
def RetW (w0 : World) (g : Nat) (l : List UInt8) (at_ : Int) (bad : Bool) (L : List Item) (e : Ending) (w' : World) : Prop := ∃ A c, e = .returned (.tuple #[]) ∧ Hp w0 w' (penW g A c l at_ bad :: .bytes A c l :: L)
set_option maxHeartbeats 2000000 in
theorem pput_any (width n : Int) (g : Nat) (A : Option Addr) (c : Nat) (l : List UInt8) (at_ : Int) (bad : Bool) (w0 w : World) (L : List Item) (hl : l.length ≤ 1000000) (H : Hp w0 w (penW g A c l at_ bad :: .bytes A c l :: L)) :
    Calls Tryd.prog 96 #[.pointer (some ⟨g, 0, none⟩), .int .i64 width, .int .i64 n] w (RetW w0 g (l ++ putL width n) at_ (bad || (putE width n != 0)) L) := by
  cases he : (putE width n != 0)
  all_goals
    cases bad
    all_goals
      go_enter Tryd.func96, Tryd.ntmps96
      go_wp2_with (first | ((with_reducible refine Hp.ld H ?_); refine ⟨rfl, ?_⟩; refine ⟨c_look rfl, ?_⟩; refine ⟨_, _, rfl, ?_⟩; (first | refine ⟨_, _, _, .z, ?_⟩ | refine ⟨_, _, _, .s .z, ?_⟩ | refine ⟨_, _, _, .s (.s .z), ?_⟩); refine ⟨_, rfl, ?_⟩; go_frame) | ((with_reducible refine Hp.stv H ?_); refine ⟨rfl, ?_⟩; refine ⟨c_look rfl, ?_⟩; (first | refine ⟨.bool _, rfl, ?_⟩ | refine ⟨.int _ _, rfl, ?_⟩ | refine ⟨.string _, rfl, ?_⟩ | refine ⟨.slice _ _ _, rfl, ?_⟩ | refine ⟨.pointer _, rfl, ?_⟩); refine ⟨rfl, _, _, rfl, ?_⟩; (first | refine ⟨_, _, _, .z, ?_⟩ | refine ⟨_, _, _, .s .z, ?_⟩ | refine ⟨_, _, _, .s (.s .z), ?_⟩); refine ⟨(by first | exact ⟨_, rfl⟩ | exact ⟨_, hs⟩), ?_⟩; (clear H; intro w1 H; simp only [List.set] at H); go_frame) | ((with_reducible refine (put_any width n _).mono ?_); rintro _ w1 ⟨A1, c1, rfl, hown, hb⟩; replace H := H.callOwn hb hown; clear hb hown))
      (replace H := H.rot3; refine hw_start [_, _] (_ :: L) H (by kernel_rfl) (fun w1 H => ?_); have hS : HpW _ _ w1 := ⟨[_, _], H⟩; simp only [List.cons_append, List.nil_append] at H; have hrd : Rd w1 A1 ((putL width n)) := (H.o 2 rfl).rd; obtain ⟨A', c', w', hrun, H'⟩ := H.appBytes 32 1 A c l rfl A1 c1 ((putL width n)) hrd (by have := putL_length6 width n; omega); (refine hw_take hS 0 (by decide +kernel) (by decide +kernel) (by decide +kernel) ⟨_, rfl, rfl, ?_, ?_, fun _ _ _ h => h, ?_⟩; rotate_left; (intro w _; go_simp; try with_reducible rfl); go_frame); (refine hw_take hS 1 (by decide +kernel) (by decide +kernel) (by decide +kernel) ⟨_, rfl, rfl, ?_, ?_, fun _ _ _ h => h, ?_⟩; rotate_left; (intro w _; go_simp; try with_reducible rfl); go_frame); (refine hw_take hS 2 (by decide +kernel) (by decide +kernel) (by decide +kernel) ⟨_, rfl, rfl, ?_, ?_, fun _ _ _ h => h, ?_⟩; rotate_left; (intro w _; go_simp; try with_reducible rfl); go_frame); (refine hw_take hS 3 (by decide +kernel) (by decide +kernel) (by decide +kernel) ⟨_, rfl, rfl, ?_, ?_, fun _ _ _ h => h, ?_⟩; rotate_left; (intro w _; go_simp; try with_reducible rfl); go_frame); (refine hw_take hS 4 (by decide +kernel) (by decide +kernel) (by decide +kernel) ⟨_, rfl, rfl, ?_, ?_, fun _ _ _ h => h, ?_⟩; rotate_left; (intro w _; go_simp; try with_reducible rfl); go_frame); (refine hw_take hS 6 (by decide +kernel) (by decide +kernel) (by decide +kernel) ⟨_, rfl, rfl, ?_, ?_, fun _ _ _ h => h, ?_⟩; rotate_left; (intro w _; go_simp; try with_reducible rfl); go_frame); (refine hw_take hS 8 (by decide +kernel) (by decide +kernel) (by decide +kernel) ⟨_, rfl, rfl, ?_, ?_, fun _ _ _ h => h, ?_⟩; rotate_left; (intro w _; go_simp; try with_reducible rfl); go_frame); (refine hw_take hS 9 (by decide +kernel) (by decide +kernel) (by decide +kernel) ⟨_, rfl, rfl, ?_, ?_, fun _ _ _ h => h, ?_⟩; rotate_left; (intro w _; go_simp; try with_reducible rfl); go_frame); (refine hw_take hS 10 (by decide +kernel) (by decide +kernel) (by decide +kernel) ⟨_, rfl, rfl, ?_, ?_, fun _ _ _ h => h, ?_⟩; rotate_left; (intro w _; go_simp; try with_reducible rfl); go_frame); simp only [List.set] at H'; refine hw_lap hS 5 11 7 (by decide) (by decide) (by decide) (by decide +kernel) (by decide +kernel) (by decide +kernel) (by decide +kernel) (by decide +kernel) ⟨_, _, _, rfl, rfl, rfl, rfl, rfl, _, _, _, w', ex_load rfl rfl (run_loadAt_cell (oneT_c c_bytes) (H.c 0 rfl 0 rfl)), ex_load rfl rfl (run_loadAt_cell (oneT_c c_bool) (H.c 0 rfl 2 rfl)), ex_append rfl rfl rfl hrun, ⟨[_, _], H'⟩, rfl, rfl, rfl, rfl, rfl, ex_load rfl rfl (run_loadAt_cell (oneT_c c_bool) (H.c 0 rfl 2 rfl)), ex_load rfl rfl (run_loadAt_cell (oneT_c c_bytes) (H.c 0 rfl 0 rfl)), ex_append rfl rfl rfl hrun, ex_load rfl rfl (run_loadAt_cell (oneT_c c_bool) (H'.c 0 rfl 2 rfl)), rfl, rfl, ?_⟩; go_frame; clear hS hrd hrun H; have H := H'; clear H'; have hS : HpW _ _ w' := ⟨[_, _], H⟩; (refine hw_take hS 12 (by decide +kernel) (by decide +kernel) (by decide +kernel) ⟨_, rfl, rfl, ?_, ?_, fun _ _ _ h => h, ?_⟩; rotate_left; (intro w _; go_simp; try with_reducible rfl); go_frame); (first | ((refine hw_take hS 13 (by decide +kernel) (by decide +kernel) (by decide +kernel) ⟨_, rfl, rfl, ?_, ?_, fun _ _ _ h => h, ?_⟩; rotate_left; (intro w _; go_simp; try with_reducible rfl); go_frame); (refine hw_take hS 14 (by decide +kernel) (by decide +kernel) (by decide +kernel) ⟨_, rfl, rfl, ?_, ?_, fun _ _ _ h => h, ?_⟩; rotate_left; (intro w _; go_simp; try with_reducible rfl); go_frame)) | ((refine hw_skip hS 13 (by decide +kernel) (by decide +kernel) (by decide +kernel) ⟨_, rfl, rfl, fun _ _ _ h => h, ?_⟩; go_frame); (refine hw_skip hS 14 (by decide +kernel) (by decide +kernel) (by decide +kernel) ⟨_, rfl, rfl, fun _ _ _ h => h, ?_⟩; go_frame))); (refine hw_take hS 15 (by decide +kernel) (by decide +kernel) (by decide +kernel) ⟨_, rfl, rfl, ?_, ?_, fun _ _ _ h => h, ?_⟩; rotate_left; (intro w _; go_simp; try with_reducible rfl); go_frame); (refine hw_take hS 16 (by decide +kernel) (by decide +kernel) (by decide +kernel) ⟨_, rfl, rfl, ?_, ?_, fun _ _ _ h => h, ?_⟩; rotate_left; (intro w _; go_simp; try with_reducible rfl); go_frame); (refine hw_take hS 17 (by decide +kernel) (by decide +kernel) (by decide +kernel) ⟨_, rfl, rfl, ?_, ?_, fun _ _ _ h => h, ?_⟩; rotate_left; (intro w _; go_simp; try with_reducible rfl); go_frame); (refine hw_one 18 (by decide +kernel) ⟨_, rfl, rfl, fun K hK => ?_⟩; refine hw_sto (v := .slice A' (l ++ (putL width n)).length c') (by kernel_rfl) rfl rfl rfl H .z (by simp) rfl (fun w1 H => hK _ _ ⟨[_, _], H⟩ ?_); clear hK K; (simp only [List.set] at H); go_frame; have hS : HpW _ _ w1 := ⟨[_, _], H⟩); (refine hw_take hS 19 (by decide +kernel) (by decide +kernel) (by decide +kernel) ⟨_, rfl, rfl, ?_, ?_, fun _ _ _ h => h, ?_⟩; rotate_left; (intro w _; go_simp; try with_reducible rfl); go_frame); (refine hw_take hS 20 (by decide +kernel) (by decide +kernel) (by decide +kernel) ⟨_, rfl, rfl, ?_, ?_, fun _ _ _ h => h, ?_⟩; rotate_left; (intro w _; go_simp; try with_reducible rfl); go_frame); (refine hw_one 21 (by decide +kernel) ⟨_, rfl, rfl, fun K hK => ?_⟩; refine hw_sto (v := .bool _) (by kernel_rfl) rfl rfl rfl H .z (by simp) rfl (fun w1 H => hK _ _ ⟨[_, _], H⟩ ?_); clear hK K; (simp only [List.set] at H); go_frame; have hS : HpW _ _ w1 := ⟨[_, _], H⟩); refine wpAnyH_done (by kernel_rfl) ?_ _; go_end0; exact ⟨A', c', rfl, H.del2⟩)
set_option maxHeartbeats 2000000 in
theorem pwrite_any (s : ByteArray) (hsz : s.size ≤ maxLen) (g : Nat) (A : Option Addr) (c : Nat) (l : List UInt8) (at_ : Int) (bad : Bool) (g2 off : Nat) (t : TypeId) (cs : List Value) (hs : cs[off]? = some (.string s)) (w0 w : World) (L : List Item) (hl : l.length ≤ 1000000) (H : Hp w0 w (penW g A c l at_ bad :: .bytes A c l :: .blk g2 t cs :: L)) :
    Calls Tryd.prog 97 #[.pointer (some ⟨g, 0, none⟩), .pointer (some ⟨g2, off, none⟩)] w (RetW w0 g (l ++ textL s.data.toList) at_ (bad || (textE s.data.toList != 0)) (.blk g2 t cs :: L)) := by
  cases he : (textE s.data.toList != 0)
  all_goals
    cases bad
    all_goals
      go_enter Tryd.func97, Tryd.ntmps97
      go_wp2_with (first | ((with_reducible refine Hp.ld H ?_); refine ⟨rfl, ?_⟩; refine ⟨c_look rfl, ?_⟩; refine ⟨_, _, rfl, ?_⟩; (first | refine ⟨_, _, _, .z, ?_⟩ | refine ⟨_, _, _, .s .z, ?_⟩ | refine ⟨_, _, _, .s (.s .z), ?_⟩); (first | refine ⟨_, rfl, ?_⟩ | refine ⟨_, hs, ?_⟩); go_frame) | ((with_reducible refine Hp.stv H ?_); refine ⟨rfl, ?_⟩; refine ⟨c_look rfl, ?_⟩; (first | refine ⟨.bool _, rfl, ?_⟩ | refine ⟨.int _ _, rfl, ?_⟩ | refine ⟨.string _, rfl, ?_⟩ | refine ⟨.slice _ _ _, rfl, ?_⟩ | refine ⟨.pointer _, rfl, ?_⟩); refine ⟨rfl, _, _, rfl, ?_⟩; (first | refine ⟨_, _, _, .z, ?_⟩ | refine ⟨_, _, _, .s .z, ?_⟩ | refine ⟨_, _, _, .s (.s .z), ?_⟩); refine ⟨(by first | exact ⟨_, rfl⟩ | exact ⟨_, hs⟩), ?_⟩; (clear H; intro w1 H; simp only [List.set] at H); go_frame) | ((with_reducible refine (text_any s _ hsz).mono ?_); rintro _ w1 ⟨A1, c1, rfl, hown, hb⟩; replace H := H.callOwn hb hown; clear hb hown))
      (replace H := H.rot3; refine hw_start [_, _] (_ :: .blk g2 t cs :: L) H (by kernel_rfl) (fun w1 H => ?_); have hS : HpW _ _ w1 := ⟨[_, _], H⟩; simp only [List.cons_append, List.nil_append] at H; have hrd : Rd w1 A1 ((textL s.data.toList)) := (H.o 2 rfl).rd; obtain ⟨A', c', w', hrun, H'⟩ := H.appBytes 32 1 A c l rfl A1 c1 ((textL s.data.toList)) hrd (by have := textL_length_le s.data.toList; omega); (refine hw_take hS 0 (by decide +kernel) (by decide +kernel) (by decide +kernel) ⟨_, rfl, rfl, ?_, ?_, fun _ _ _ h => h, ?_⟩; rotate_left; (intro w _; go_simp; try with_reducible rfl); go_frame); (refine hw_take hS 1 (by decide +kernel) (by decide +kernel) (by decide +kernel) ⟨_, rfl, rfl, ?_, ?_, fun _ _ _ h => h, ?_⟩; rotate_left; (intro w _; go_simp; try with_reducible rfl); go_frame); (refine hw_take hS 2 (by decide +kernel) (by decide +kernel) (by decide +kernel) ⟨_, rfl, rfl, ?_, ?_, fun _ _ _ h => h, ?_⟩; rotate_left; (intro w _; go_simp; try with_reducible rfl); go_frame); (refine hw_take hS 3 (by decide +kernel) (by decide +kernel) (by decide +kernel) ⟨_, rfl, rfl, ?_, ?_, fun _ _ _ h => h, ?_⟩; rotate_left; (intro w _; go_simp; try with_reducible rfl); go_frame); (refine hw_take hS 4 (by decide +kernel) (by decide +kernel) (by decide +kernel) ⟨_, rfl, rfl, ?_, ?_, fun _ _ _ h => h, ?_⟩; rotate_left; (intro w _; go_simp; try with_reducible rfl); go_frame); (refine hw_take hS 6 (by decide +kernel) (by decide +kernel) (by decide +kernel) ⟨_, rfl, rfl, ?_, ?_, fun _ _ _ h => h, ?_⟩; rotate_left; (intro w _; go_simp; try with_reducible rfl); go_frame); (refine hw_take hS 8 (by decide +kernel) (by decide +kernel) (by decide +kernel) ⟨_, rfl, rfl, ?_, ?_, fun _ _ _ h => h, ?_⟩; rotate_left; (intro w _; go_simp; try with_reducible rfl); go_frame); (refine hw_take hS 9 (by decide +kernel) (by decide +kernel) (by decide +kernel) ⟨_, rfl, rfl, ?_, ?_, fun _ _ _ h => h, ?_⟩; rotate_left; (intro w _; go_simp; try with_reducible rfl); go_frame); (refine hw_take hS 10 (by decide +kernel) (by decide +kernel) (by decide +kernel) ⟨_, rfl, rfl, ?_, ?_, fun _ _ _ h => h, ?_⟩; rotate_left; (intro w _; go_simp; try with_reducible rfl); go_frame); simp only [List.set] at H'; refine hw_lap hS 5 11 7 (by decide) (by decide) (by decide) (by decide +kernel) (by decide +kernel) (by decide +kernel) (by decide +kernel) (by decide +kernel) ⟨_, _, _, rfl, rfl, rfl, rfl, rfl, _, _, _, w', ex_load rfl rfl (run_loadAt_cell (oneT_c c_bytes) (H.c 0 rfl 0 rfl)), ex_load rfl rfl (run_loadAt_cell (oneT_c c_bool) (H.c 0 rfl 2 rfl)), ex_append rfl rfl rfl hrun, ⟨[_, _], H'⟩, rfl, rfl, rfl, rfl, rfl, ex_load rfl rfl (run_loadAt_cell (oneT_c c_bool) (H.c 0 rfl 2 rfl)), ex_load rfl rfl (run_loadAt_cell (oneT_c c_bytes) (H.c 0 rfl 0 rfl)), ex_append rfl rfl rfl hrun, ex_load rfl rfl (run_loadAt_cell (oneT_c c_bool) (H'.c 0 rfl 2 rfl)), rfl, rfl, ?_⟩; go_frame; clear hS hrd hrun H; have H := H'; clear H'; have hS : HpW _ _ w' := ⟨[_, _], H⟩; (refine hw_take hS 12 (by decide +kernel) (by decide +kernel) (by decide +kernel) ⟨_, rfl, rfl, ?_, ?_, fun _ _ _ h => h, ?_⟩; rotate_left; (intro w _; go_simp; try with_reducible rfl); go_frame); (first | ((refine hw_take hS 13 (by decide +kernel) (by decide +kernel) (by decide +kernel) ⟨_, rfl, rfl, ?_, ?_, fun _ _ _ h => h, ?_⟩; rotate_left; (intro w _; go_simp; try with_reducible rfl); go_frame); (refine hw_take hS 14 (by decide +kernel) (by decide +kernel) (by decide +kernel) ⟨_, rfl, rfl, ?_, ?_, fun _ _ _ h => h, ?_⟩; rotate_left; (intro w _; go_simp; try with_reducible rfl); go_frame)) | ((refine hw_skip hS 13 (by decide +kernel) (by decide +kernel) (by decide +kernel) ⟨_, rfl, rfl, fun _ _ _ h => h, ?_⟩; go_frame); (refine hw_skip hS 14 (by decide +kernel) (by decide +kernel) (by decide +kernel) ⟨_, rfl, rfl, fun _ _ _ h => h, ?_⟩; go_frame))); (refine hw_take hS 15 (by decide +kernel) (by decide +kernel) (by decide +kernel) ⟨_, rfl, rfl, ?_, ?_, fun _ _ _ h => h, ?_⟩; rotate_left; (intro w _; go_simp; try with_reducible rfl); go_frame); (refine hw_take hS 16 (by decide +kernel) (by decide +kernel) (by decide +kernel) ⟨_, rfl, rfl, ?_, ?_, fun _ _ _ h => h, ?_⟩; rotate_left; (intro w _; go_simp; try with_reducible rfl); go_frame); (refine hw_take hS 17 (by decide +kernel) (by decide +kernel) (by decide +kernel) ⟨_, rfl, rfl, ?_, ?_, fun _ _ _ h => h, ?_⟩; rotate_left; (intro w _; go_simp; try with_reducible rfl); go_frame); (refine hw_one 18 (by decide +kernel) ⟨_, rfl, rfl, fun K hK => ?_⟩; refine hw_sto (v := .slice A' (l ++ (textL s.data.toList)).length c') (by kernel_rfl) rfl rfl rfl H .z (by simp) rfl (fun w1 H => hK _ _ ⟨[_, _], H⟩ ?_); clear hK K; (simp only [List.set] at H); go_frame; have hS : HpW _ _ w1 := ⟨[_, _], H⟩); (refine hw_take hS 19 (by decide +kernel) (by decide +kernel) (by decide +kernel) ⟨_, rfl, rfl, ?_, ?_, fun _ _ _ h => h, ?_⟩; rotate_left; (intro w _; go_simp; try with_reducible rfl); go_frame); (refine hw_take hS 20 (by decide +kernel) (by decide +kernel) (by decide +kernel) ⟨_, rfl, rfl, ?_, ?_, fun _ _ _ h => h, ?_⟩; rotate_left; (intro w _; go_simp; try with_reducible rfl); go_frame); (refine hw_one 21 (by decide +kernel) ⟨_, rfl, rfl, fun K hK => ?_⟩; refine hw_sto (v := .bool _) (by kernel_rfl) rfl rfl rfl H .z (by simp) rfl (fun w1 H => hK _ _ ⟨[_, _], H⟩ ?_); clear hK K; (simp only [List.set] at H); go_frame; have hS : HpW _ _ w1 := ⟨[_, _], H⟩); refine wpAnyH_done (by kernel_rfl) ?_ _; go_end0; exact ⟨A', c', rfl, H.del2⟩)
end Go.Proofs.YtajgikjmoeemnaaDoor

/-
  THE WALKS OF entry's texts, entry, Bytes.
-/
namespace Go.Proofs.YtajgikjmoeemnaaDoor
set_option maxRecDepth 100000
open Go.RowKit
set_option linter.unusedVariables false
set_option linter.unusedSimpArgs false
theorem i3_0 (a b c : Addr) (w : World) : (Instr.index 137 (.agg #[.pointer (some a), .pointer (some b), .pointer (some c)]) (.int .i64 0)).run Tryd.prog w = .ok (.pointer (some a)) w := by kernel_rfl
theorem i3_1 (a b c : Addr) (w : World) : (Instr.index 137 (.agg #[.pointer (some a), .pointer (some b), .pointer (some c)]) (.int .i64 1)).run Tryd.prog w = .ok (.pointer (some b)) w := by kernel_rfl
theorem i3_2 (a b c : Addr) (w : World) : (Instr.index 137 (.agg #[.pointer (some a), .pointer (some b), .pointer (some c)]) (.int .i64 2)).run Tryd.prog w = .ok (.pointer (some c)) w := by kernel_rfl
set_option maxHeartbeats 2000000 in
theorem textsW_any (e : En) (hsm : Sm e) (g : Nat) (A : Option Addr) (c : Nat) (l : List UInt8) (at_ : Int) (bad : Bool) (g2 : Nat) (w0 w : World) (L : List Item) (hl : l.length ≤ 10000) (H : Hp w0 w (penW g A c l at_ bad :: .bytes A c l :: .blk g2 27 (enC e) :: L)) :
    Calls Tryd.prog 92 #[.pointer (some ⟨g, 0, none⟩), .pointer (some ⟨g2, 3, none⟩), .func (.func 97) #[] #[]] w
      (RetW w0 g (((l ++ textL e.s0.data.toList) ++ textL e.s1.data.toList) ++ textL e.s2.data.toList) at_ (((bad || (textE e.s0.data.toList != 0)) || (textE e.s1.data.toList != 0)) || (textE e.s2.data.toList != 0)) (.blk g2 27 (enC e) :: L)) := by
  obtain ⟨z0, z1, z2⟩ := hsm
  have hl0 : l.length ≤ 1000000 := by omega
  have hl1 : (l ++ textL e.s0.data.toList).length ≤ 1000000 := by have := textL_length_le e.s0.data.toList; simp only [List.length_append]; omega
  have hl2 : ((l ++ textL e.s0.data.toList) ++ textL e.s1.data.toList).length ≤ 1000000 := by have := textL_length_le e.s0.data.toList; have := textL_length_le e.s1.data.toList; simp only [List.length_append]; omega
  clear hl
  have k0 := i3_0
  have k1 := i3_1
  have k2 := i3_2
  have x0 : (enC e)[4]? = some (.string e.s0) := rfl
  have x1 : (enC e)[5]? = some (.string e.s1) := rfl
  have x2 : (enC e)[6]? = some (.string e.s2) := rfl
  go_enter Tryd.func92, Tryd.ntmps92
  go_wp2_with (first | ((with_reducible refine Hp.bdl H ?_); (fail); go_frame) | (fail))
  ((with_reducible refine wp_region_hpK H (by kernel_rfl) (by kernel_rfl) ?_); intro _ KQ hKQ; (repeat (first | go_big_quiet_skip | ((with_reducible refine hq_bdl ?_); (fail); go_frame) | (fail) | go_big_quiet_step ((fail)))); (with_reducible refine wpQuiet_nil (hKQ _ ?_)); clear hKQ; clear KQ H; intro w1 H)
  go_wp2_with (first | ((with_reducible refine Hp.bdl H ?_); (fail); go_frame) | (fail))
  refine wp_loop_rounds 4 ?_
  rw [rounds_succ]
  go_wp2_with (first | ((with_reducible refine Hp.bdl H ?_); (fail); go_frame) | (fail))
  ((with_reducible refine (pwrite_any _ z0 _ _ _ _ _ _ _ _ _ _ x0 _ _ _ hl0 H).mono ?_); rintro _ w1 ⟨A1, c1, rfl, H1⟩; replace H := H1; clear H1)
  go_wp2_with (first | ((with_reducible refine Hp.bdl H ?_); (fail); go_frame) | (fail))
  rw [rounds_succ]
  go_wp2_with (first | ((with_reducible refine Hp.bdl H ?_); (fail); go_frame) | (fail))
  ((with_reducible refine (pwrite_any _ z1 _ _ _ _ _ _ _ _ _ _ x1 _ _ _ hl1 H).mono ?_); rintro _ w1 ⟨A1, c1, rfl, H1⟩; replace H := H1; clear H1)
  go_wp2_with (first | ((with_reducible refine Hp.bdl H ?_); (fail); go_frame) | (fail))
  rw [rounds_succ]
  go_wp2_with (first | ((with_reducible refine Hp.bdl H ?_); (fail); go_frame) | (fail))
  ((with_reducible refine (pwrite_any _ z2 _ _ _ _ _ _ _ _ _ _ x2 _ _ _ hl2 H).mono ?_); rintro _ w1 ⟨A1, c1, rfl, H1⟩; replace H := H1; clear H1)
  go_wp2_with (first | ((with_reducible refine Hp.bdl H ?_); (fail); go_frame) | (fail))
  rw [rounds_succ]
  go_wp2_with (first | ((with_reducible refine Hp.bdl H ?_); (fail); go_frame) | (fail))
  go_end0
  exact ⟨_, _, rfl, by simpa only [List.append_assoc, Bool.or_assoc] using H⟩
/-- the kinds are bytes -/
def U8 (e : En) : Prop := 0 ≤ e.k ∧ e.k < 256 ∧ 0 ≤ e.ok ∧ e.ok < 256
set_option maxHeartbeats 2000000 in
theorem pentry_any (e : En) (hsm : Sm e) (hu : U8 e) (g : Nat) (A : Option Addr) (c : Nat) (l : List UInt8) (at_ : Int) (bad : Bool) (w0 w : World) (L : List Item) (hl : l.length ≤ 1000) (H : Hp w0 w (penW g A c l at_ bad :: .bytes A c l :: L)) :
    Calls Tryd.prog 90 #[.pointer (some ⟨g, 0, none⟩), .agg (enC e).toArray] w (RetW w0 g (l ++ entL e) at_ (bad || entBad e) L) := by
  obtain ⟨u0, u1, u2, u3⟩ := hu
  have m1 := putL_length6 1 e.k
  have m2 := putL_length6 1 e.c
  have m3 := putL_length6 6 e.s
  have m4 := putL_length6 1 e.ok
  have hl0 : l.length ≤ 1000000 := by omega
  have hl1 : (l ++ putL 1 e.k).length ≤ 1000000 := by simp only [List.length_append]; omega
  have hl2 : ((l ++ putL 1 e.k) ++ putL 1 e.c).length ≤ 1000000 := by simp only [List.length_append]; omega
  have hl3 : (((l ++ putL 1 e.k) ++ putL 1 e.c) ++ putL 6 e.s).length ≤ 1000000 := by simp only [List.length_append]; omega
  have hl4 : ((((l ++ putL 1 e.k) ++ putL 1 e.c) ++ putL 6 e.s) ++ putL 1 e.ok).length ≤ 10000 := by simp only [List.length_append]; omega
  clear m1 m2 m3 m4 hl
  have w1' : IntKind.i64.wrap e.k = e.k := IntWalk.i64_in _ (by omega)
  have w2' : IntKind.i64.wrap e.ok = e.ok := IntWalk.i64_in _ (by omega)
  by_cases hk : e.k = 2
  · have hk' : (e.k == 2) = true := by simp [hk]
    have hL : entL e = putL 1 e.k ++ (putL 1 e.c ++ (putL 6 e.s ++ (putL 1 e.ok ++ (textL e.s0.data.toList ++ (textL e.s1.data.toList ++ textL e.s2.data.toList))))) := by unfold entL; rw [if_pos hk]
    have hB : entBad e = ((putE 1 e.k != 0) || ((putE 1 e.c != 0) || ((putE 6 e.s != 0) || ((putE 1 e.ok != 0) || ((textE e.s0.data.toList != 0) || ((textE e.s1.data.toList != 0) || (textE e.s2.data.toList != 0))))))) := by unfold entBad; rw [if_pos hk]
    have HL := Lib.hid hL
    have HB := Lib.hid hB
    clear hL hB hk
    go_enter Tryd.func90, Tryd.ntmps90
    go_wp2_with (first | ((with_reducible refine Hp.box H ?_); (first | refine ⟨rfl, [.pointer _], rfl, ?_⟩ | refine ⟨rfl, [.int _ _], rfl, ?_⟩ | refine ⟨rfl, [.slice _ _ _], rfl, ?_⟩ | refine ⟨rfl, [.bool _], rfl, ?_⟩ | refine ⟨rfl, [.string _], rfl, ?_⟩ | refine ⟨rfl, _, rfl, ?_⟩); (clear H; intro g1 w1 H); go_frame) | ((with_reducible refine Hp.ld H ?_); refine ⟨rfl, ?_⟩; refine ⟨c_look rfl, ?_⟩; refine ⟨_, _, rfl, ?_⟩; ((repeat ((fail_if_success refine ⟨_, _, _, .z, ?_⟩); refine hs ?_)); refine ⟨_, _, _, .z, ?_⟩); refine ⟨_, rfl, ?_⟩; go_frame) | (fail))
    replace H := H.rot3
    ((with_reducible refine (pput_any _ _ _ _ _ _ _ _ _ _ _ hl0 H).mono ?_); rintro _ w1 ⟨A1, c1, rfl, H1⟩; replace H := H1; clear H1)
    go_wp2_with (first | ((with_reducible refine Hp.box H ?_); (first | refine ⟨rfl, [.pointer _], rfl, ?_⟩ | refine ⟨rfl, [.int _ _], rfl, ?_⟩ | refine ⟨rfl, [.slice _ _ _], rfl, ?_⟩ | refine ⟨rfl, [.bool _], rfl, ?_⟩ | refine ⟨rfl, [.string _], rfl, ?_⟩ | refine ⟨rfl, _, rfl, ?_⟩); (clear H; intro g1 w1 H); go_frame) | ((with_reducible refine Hp.ld H ?_); refine ⟨rfl, ?_⟩; refine ⟨c_look rfl, ?_⟩; refine ⟨_, _, rfl, ?_⟩; ((repeat ((fail_if_success refine ⟨_, _, _, .z, ?_⟩); refine hs ?_)); refine ⟨_, _, _, .z, ?_⟩); refine ⟨_, rfl, ?_⟩; go_frame) | (fail))
    ((with_reducible refine (pput_any _ _ _ _ _ _ _ _ _ _ _ hl1 H).mono ?_); rintro _ w1 ⟨A1, c1, rfl, H1⟩; replace H := H1; clear H1)
    go_wp2_with (first | ((with_reducible refine Hp.box H ?_); (first | refine ⟨rfl, [.pointer _], rfl, ?_⟩ | refine ⟨rfl, [.int _ _], rfl, ?_⟩ | refine ⟨rfl, [.slice _ _ _], rfl, ?_⟩ | refine ⟨rfl, [.bool _], rfl, ?_⟩ | refine ⟨rfl, [.string _], rfl, ?_⟩ | refine ⟨rfl, _, rfl, ?_⟩); (clear H; intro g1 w1 H); go_frame) | ((with_reducible refine Hp.ld H ?_); refine ⟨rfl, ?_⟩; refine ⟨c_look rfl, ?_⟩; refine ⟨_, _, rfl, ?_⟩; ((repeat ((fail_if_success refine ⟨_, _, _, .z, ?_⟩); refine hs ?_)); refine ⟨_, _, _, .z, ?_⟩); refine ⟨_, rfl, ?_⟩; go_frame) | (fail))
    ((with_reducible refine (pput_any _ _ _ _ _ _ _ _ _ _ _ hl2 H).mono ?_); rintro _ w1 ⟨A1, c1, rfl, H1⟩; replace H := H1; clear H1)
    go_wp2_with (first | ((with_reducible refine Hp.box H ?_); (first | refine ⟨rfl, [.pointer _], rfl, ?_⟩ | refine ⟨rfl, [.int _ _], rfl, ?_⟩ | refine ⟨rfl, [.slice _ _ _], rfl, ?_⟩ | refine ⟨rfl, [.bool _], rfl, ?_⟩ | refine ⟨rfl, [.string _], rfl, ?_⟩ | refine ⟨rfl, _, rfl, ?_⟩); (clear H; intro g1 w1 H); go_frame) | ((with_reducible refine Hp.ld H ?_); refine ⟨rfl, ?_⟩; refine ⟨c_look rfl, ?_⟩; refine ⟨_, _, rfl, ?_⟩; ((repeat ((fail_if_success refine ⟨_, _, _, .z, ?_⟩); refine hs ?_)); refine ⟨_, _, _, .z, ?_⟩); refine ⟨_, rfl, ?_⟩; go_frame) | (fail))
    ((with_reducible refine (pput_any _ _ _ _ _ _ _ _ _ _ _ hl3 H).mono ?_); rintro _ w1 ⟨A1, c1, rfl, H1⟩; replace H := H1; clear H1)
    go_wp2_with (first | ((with_reducible refine Hp.box H ?_); (first | refine ⟨rfl, [.pointer _], rfl, ?_⟩ | refine ⟨rfl, [.int _ _], rfl, ?_⟩ | refine ⟨rfl, [.slice _ _ _], rfl, ?_⟩ | refine ⟨rfl, [.bool _], rfl, ?_⟩ | refine ⟨rfl, [.string _], rfl, ?_⟩ | refine ⟨rfl, _, rfl, ?_⟩); (clear H; intro g1 w1 H); go_frame) | ((with_reducible refine Hp.ld H ?_); refine ⟨rfl, ?_⟩; refine ⟨c_look rfl, ?_⟩; refine ⟨_, _, rfl, ?_⟩; ((repeat ((fail_if_success refine ⟨_, _, _, .z, ?_⟩); refine hs ?_)); refine ⟨_, _, _, .z, ?_⟩); refine ⟨_, rfl, ?_⟩; go_frame) | (fail))
    (with_reducible refine (textsW_any e hsm _ _ _ _ _ _ _ _ _ _ hl4 H).mono ?_)
    rintro _ w1 ⟨A1, c1, rfl, H1⟩
    replace H := H1
    clear H1
    go_wp2_with (first | ((with_reducible refine Hp.box H ?_); (first | refine ⟨rfl, [.pointer _], rfl, ?_⟩ | refine ⟨rfl, [.int _ _], rfl, ?_⟩ | refine ⟨rfl, [.slice _ _ _], rfl, ?_⟩ | refine ⟨rfl, [.bool _], rfl, ?_⟩ | refine ⟨rfl, [.string _], rfl, ?_⟩ | refine ⟨rfl, _, rfl, ?_⟩); (clear H; intro g1 w1 H); go_frame) | ((with_reducible refine Hp.ld H ?_); refine ⟨rfl, ?_⟩; refine ⟨c_look rfl, ?_⟩; refine ⟨_, _, rfl, ?_⟩; ((repeat ((fail_if_success refine ⟨_, _, _, .z, ?_⟩); refine hs ?_)); refine ⟨_, _, _, .z, ?_⟩); refine ⟨_, rfl, ?_⟩; go_frame) | (fail))
    go_end0
    refine ⟨A1, c1, rfl, ?_⟩
    rw [HL.out, HB.out]
    simpa only [List.append_assoc, Bool.or_assoc] using H.del2
  · have hk' : (e.k == 2) = false := beq_eq_false_iff_ne.mpr hk
    have hL : entL e = putL 1 e.k := by unfold entL; rw [if_neg hk, List.append_nil]
    have hB : entBad e = (putE 1 e.k != 0) := by unfold entBad; rw [if_neg hk, Bool.or_false]
    have HL := Lib.hid hL
    have HB := Lib.hid hB
    clear hL hB hk
    go_enter Tryd.func90, Tryd.ntmps90
    go_wp2_with (first | ((with_reducible refine Hp.box H ?_); (first | refine ⟨rfl, [.pointer _], rfl, ?_⟩ | refine ⟨rfl, [.int _ _], rfl, ?_⟩ | refine ⟨rfl, [.slice _ _ _], rfl, ?_⟩ | refine ⟨rfl, [.bool _], rfl, ?_⟩ | refine ⟨rfl, [.string _], rfl, ?_⟩ | refine ⟨rfl, _, rfl, ?_⟩); (clear H; intro g1 w1 H); go_frame) | ((with_reducible refine Hp.ld H ?_); refine ⟨rfl, ?_⟩; refine ⟨c_look rfl, ?_⟩; refine ⟨_, _, rfl, ?_⟩; ((repeat ((fail_if_success refine ⟨_, _, _, .z, ?_⟩); refine hs ?_)); refine ⟨_, _, _, .z, ?_⟩); refine ⟨_, rfl, ?_⟩; go_frame) | (fail))
    replace H := H.rot3
    ((with_reducible refine (pput_any _ _ _ _ _ _ _ _ _ _ _ hl0 H).mono ?_); rintro _ w1 ⟨A1, c1, rfl, H1⟩; replace H := H1; clear H1)
    go_wp2_with (first | ((with_reducible refine Hp.box H ?_); (first | refine ⟨rfl, [.pointer _], rfl, ?_⟩ | refine ⟨rfl, [.int _ _], rfl, ?_⟩ | refine ⟨rfl, [.slice _ _ _], rfl, ?_⟩ | refine ⟨rfl, [.bool _], rfl, ?_⟩ | refine ⟨rfl, [.string _], rfl, ?_⟩ | refine ⟨rfl, _, rfl, ?_⟩); (clear H; intro g1 w1 H); go_frame) | ((with_reducible refine Hp.ld H ?_); refine ⟨rfl, ?_⟩; refine ⟨c_look rfl, ?_⟩; refine ⟨_, _, rfl, ?_⟩; ((repeat ((fail_if_success refine ⟨_, _, _, .z, ?_⟩); refine hs ?_)); refine ⟨_, _, _, .z, ?_⟩); refine ⟨_, rfl, ?_⟩; go_frame) | (fail))
    go_end0
    refine ⟨A1, c1, rfl, ?_⟩
    rw [HL.out, HB.out]
    exact H.del2
theorem may_b (e : En) (w : World) (b : Bool) (hb : mayB e = b) (hs : Sm e) : Calls Tryd.prog 60 #[.agg (enC e).toArray] w (RetV w (.bool b)) := by
  subst hb
  exact may_any e w hs
set_option maxHeartbeats 2000000 in
theorem ebytes_any (e : En) (hsm : Sm e) (hu : U8 e) (w : World) : Calls Tryd.prog 79 #[.agg (enC e).toArray] w (RetBI w (bytesL e) (bytesE e)) := by
  have H := Hp.nil w
  have hmb := may_bad (e := e)
  unfold bytesL bytesE
  cases hm : mayB e
  · cases hb : entBad e
    all_goals
      rw [if_neg (by decide), if_neg (by decide)]
      clear hmb
      go_enter Tryd.func79, Tryd.ntmps79
      go_wp2_with (first | ((with_reducible refine Hp.box H ?_); (first | refine ⟨rfl, [.pointer _], rfl, ?_⟩ | refine ⟨rfl, [.int _ _], rfl, ?_⟩ | refine ⟨rfl, [.slice _ _ _], rfl, ?_⟩ | refine ⟨rfl, [.bool _], rfl, ?_⟩ | refine ⟨rfl, [.string _], rfl, ?_⟩ | refine ⟨rfl, _, rfl, ?_⟩); (clear H; intro g1 w1 H); go_frame) | ((with_reducible refine Hp.allo H ?_); refine ⟨rfl, ?_⟩; refine ⟨_, z_look rfl, ?_⟩; (clear H; intro g1 w1 H); go_frame) | ((with_reducible refine Hp.ld H ?_); refine ⟨rfl, ?_⟩; refine ⟨c_look rfl, ?_⟩; refine ⟨_, _, rfl, ?_⟩; ((repeat ((fail_if_success refine ⟨_, _, _, .z, ?_⟩); refine hs ?_)); refine ⟨_, _, _, .z, ?_⟩); refine ⟨_, rfl, ?_⟩; go_frame) | ((with_reducible refine Hp.lda H ?_); refine ⟨rfl, by kernel_rfl, ?_⟩; refine ⟨_, s_look rfl, ?_⟩; refine ⟨_, rfl, ?_⟩; ((repeat ((fail_if_success refine ⟨_, _, _, .z, ?_⟩); refine hs ?_)); refine ⟨_, _, _, .z, ?_⟩); refine ⟨rfl, ?_⟩; go_frame) | ((with_reducible refine Hp.lds H ?_); refine ⟨rfl, by kernel_rfl, ?_⟩; refine ⟨_, s_look rfl, ?_⟩; refine ⟨_, _, rfl, ?_⟩; ((repeat ((fail_if_success refine ⟨_, _, _, .z, ?_⟩); refine hs ?_)); refine ⟨_, _, _, .z, ?_⟩); (first | refine ⟨[_, _], rfl, rfl, ?_⟩ | refine ⟨[_, _, _, _], rfl, rfl, ?_⟩ | refine ⟨[_, _, _, _, _, _, _], rfl, rfl, ?_⟩ | refine ⟨[_, _, _], rfl, rfl, ?_⟩ | (fail)); go_frame) | ((with_reducible refine (may_b e _ _ hm hsm).mono ?_); rintro _ w1 ⟨rfl, hb⟩; replace H := H.call hb; clear hb))
      have H1 : Hp w w1 (penW _ none 0 [] 0 false :: .bytes none 0 [] :: _) := H.nilOwn.rot2
      (with_reducible refine (pentry_any e hsm hu _ _ _ _ _ _ _ _ _ (by decide) H1).mono ?_)
      rintro _ w2 ⟨A1, c1, rfl, H2⟩
      clear H H1
      have H := H2
      clear H2
      simp only [Bool.false_or, hb, List.nil_append] at H
      go_wp2_with (first | ((with_reducible refine Hp.box H ?_); (first | refine ⟨rfl, [.pointer _], rfl, ?_⟩ | refine ⟨rfl, [.int _ _], rfl, ?_⟩ | refine ⟨rfl, [.slice _ _ _], rfl, ?_⟩ | refine ⟨rfl, [.bool _], rfl, ?_⟩ | refine ⟨rfl, [.string _], rfl, ?_⟩ | refine ⟨rfl, _, rfl, ?_⟩); (clear H; intro g1 w1 H); go_frame) | ((with_reducible refine Hp.allo H ?_); refine ⟨rfl, ?_⟩; refine ⟨_, z_look rfl, ?_⟩; (clear H; intro g1 w1 H); go_frame) | ((with_reducible refine Hp.ld H ?_); refine ⟨rfl, ?_⟩; refine ⟨c_look rfl, ?_⟩; refine ⟨_, _, rfl, ?_⟩; ((repeat ((fail_if_success refine ⟨_, _, _, .z, ?_⟩); refine hs ?_)); refine ⟨_, _, _, .z, ?_⟩); refine ⟨_, rfl, ?_⟩; go_frame) | ((with_reducible refine Hp.lda H ?_); refine ⟨rfl, by kernel_rfl, ?_⟩; refine ⟨_, s_look rfl, ?_⟩; refine ⟨_, rfl, ?_⟩; ((repeat ((fail_if_success refine ⟨_, _, _, .z, ?_⟩); refine hs ?_)); refine ⟨_, _, _, .z, ?_⟩); refine ⟨rfl, ?_⟩; go_frame) | ((with_reducible refine Hp.lds H ?_); refine ⟨rfl, by kernel_rfl, ?_⟩; refine ⟨_, s_look rfl, ?_⟩; refine ⟨_, _, rfl, ?_⟩; ((repeat ((fail_if_success refine ⟨_, _, _, .z, ?_⟩); refine hs ?_)); refine ⟨_, _, _, .z, ?_⟩); (first | refine ⟨[_, _], rfl, rfl, ?_⟩ | refine ⟨[_, _, _, _], rfl, rfl, ?_⟩ | refine ⟨[_, _, _, _, _, _, _], rfl, rfl, ?_⟩ | refine ⟨[_, _, _], rfl, rfl, ?_⟩ | (fail)); go_frame) | ((with_reducible refine (may_b e _ _ hm hsm).mono ?_); rintro _ w1 ⟨rfl, hb⟩; replace H := H.call hb; clear hb))
      go_ret2
      exact ⟨none, 0, rfl, Own.none_ _ _, H.below⟩
  · have hb := hmb hm
    clear hmb
    rw [if_pos rfl, if_pos rfl]
    go_enter Tryd.func79, Tryd.ntmps79
    go_wp2_with (first | ((with_reducible refine Hp.box H ?_); (first | refine ⟨rfl, [.pointer _], rfl, ?_⟩ | refine ⟨rfl, [.int _ _], rfl, ?_⟩ | refine ⟨rfl, [.slice _ _ _], rfl, ?_⟩ | refine ⟨rfl, [.bool _], rfl, ?_⟩ | refine ⟨rfl, [.string _], rfl, ?_⟩ | refine ⟨rfl, _, rfl, ?_⟩); (clear H; intro g1 w1 H); go_frame) | ((with_reducible refine Hp.allo H ?_); refine ⟨rfl, ?_⟩; refine ⟨_, z_look rfl, ?_⟩; (clear H; intro g1 w1 H); go_frame) | ((with_reducible refine Hp.ld H ?_); refine ⟨rfl, ?_⟩; refine ⟨c_look rfl, ?_⟩; refine ⟨_, _, rfl, ?_⟩; ((repeat ((fail_if_success refine ⟨_, _, _, .z, ?_⟩); refine hs ?_)); refine ⟨_, _, _, .z, ?_⟩); refine ⟨_, rfl, ?_⟩; go_frame) | ((with_reducible refine Hp.lda H ?_); refine ⟨rfl, by kernel_rfl, ?_⟩; refine ⟨_, s_look rfl, ?_⟩; refine ⟨_, rfl, ?_⟩; ((repeat ((fail_if_success refine ⟨_, _, _, .z, ?_⟩); refine hs ?_)); refine ⟨_, _, _, .z, ?_⟩); refine ⟨rfl, ?_⟩; go_frame) | ((with_reducible refine Hp.lds H ?_); refine ⟨rfl, by kernel_rfl, ?_⟩; refine ⟨_, s_look rfl, ?_⟩; refine ⟨_, _, rfl, ?_⟩; ((repeat ((fail_if_success refine ⟨_, _, _, .z, ?_⟩); refine hs ?_)); refine ⟨_, _, _, .z, ?_⟩); (first | refine ⟨[_, _], rfl, rfl, ?_⟩ | refine ⟨[_, _, _, _], rfl, rfl, ?_⟩ | refine ⟨[_, _, _, _, _, _, _], rfl, rfl, ?_⟩ | refine ⟨[_, _, _], rfl, rfl, ?_⟩ | (fail)); go_frame) | ((with_reducible refine (may_b e _ _ hm hsm).mono ?_); rintro _ w1 ⟨rfl, hb⟩; replace H := H.call hb; clear hb))
    have H1 : Hp w w1 (penW _ none 0 [] 0 false :: .bytes none 0 [] :: _) := H.nilOwn.rot2
    (with_reducible refine (pentry_any e hsm hu _ _ _ _ _ _ _ _ _ (by decide) H1).mono ?_)
    rintro _ w2 ⟨A1, c1, rfl, H2⟩
    clear H H1
    have H := H2
    clear H2
    simp only [Bool.false_or, hb, List.nil_append] at H
    go_wp2_with (first | ((with_reducible refine Hp.box H ?_); (first | refine ⟨rfl, [.pointer _], rfl, ?_⟩ | refine ⟨rfl, [.int _ _], rfl, ?_⟩ | refine ⟨rfl, [.slice _ _ _], rfl, ?_⟩ | refine ⟨rfl, [.bool _], rfl, ?_⟩ | refine ⟨rfl, [.string _], rfl, ?_⟩ | refine ⟨rfl, _, rfl, ?_⟩); (clear H; intro g1 w1 H); go_frame) | ((with_reducible refine Hp.allo H ?_); refine ⟨rfl, ?_⟩; refine ⟨_, z_look rfl, ?_⟩; (clear H; intro g1 w1 H); go_frame) | ((with_reducible refine Hp.ld H ?_); refine ⟨rfl, ?_⟩; refine ⟨c_look rfl, ?_⟩; refine ⟨_, _, rfl, ?_⟩; ((repeat ((fail_if_success refine ⟨_, _, _, .z, ?_⟩); refine hs ?_)); refine ⟨_, _, _, .z, ?_⟩); refine ⟨_, rfl, ?_⟩; go_frame) | ((with_reducible refine Hp.lda H ?_); refine ⟨rfl, by kernel_rfl, ?_⟩; refine ⟨_, s_look rfl, ?_⟩; refine ⟨_, rfl, ?_⟩; ((repeat ((fail_if_success refine ⟨_, _, _, .z, ?_⟩); refine hs ?_)); refine ⟨_, _, _, .z, ?_⟩); refine ⟨rfl, ?_⟩; go_frame) | ((with_reducible refine Hp.lds H ?_); refine ⟨rfl, by kernel_rfl, ?_⟩; refine ⟨_, s_look rfl, ?_⟩; refine ⟨_, _, rfl, ?_⟩; ((repeat ((fail_if_success refine ⟨_, _, _, .z, ?_⟩); refine hs ?_)); refine ⟨_, _, _, .z, ?_⟩); (first | refine ⟨[_, _], rfl, rfl, ?_⟩ | refine ⟨[_, _, _, _], rfl, rfl, ?_⟩ | refine ⟨[_, _, _, _, _, _, _], rfl, rfl, ?_⟩ | refine ⟨[_, _, _], rfl, rfl, ?_⟩ | (fail)); go_frame) | ((with_reducible refine (may_b e _ _ hm hsm).mono ?_); rintro _ w1 ⟨rfl, hb⟩; replace H := H.call hb; clear hb))
    go_ret2
    exact ⟨_, _, rfl, H.o 1 rfl, H.below⟩
end Go.Proofs.YtajgikjmoeemnaaDoor

/-
  ARGUMENTS OPENED: entries, slices of entries.
-/
namespace Go.Proofs.YtajgikjmoeemnaaDoor
set_option maxRecDepth 100000
open Go.ChangeShapes Go.WideShapes Go.ChangeAt Go.RowKit
set_option linter.unusedVariables false

theorem list7 {α : Type} {l : List α} (h : l.length = 7) : ∃ a b c d e f g, l = [a, b, c, d, e, f, g] := by
  match l, h with
  | [a, b, c, d, e, f, g], _ => exact ⟨a, b, c, d, e, f, g, rfl⟩
section
variable {H : Type} {enc : TypeId × Value → H} {w : World} {base : Nat}
theorem Tr.entry {cs : List Value} (h : Tr enc Tryd.prog w base 27 cs) (hl : cs.length = 7) : ∃ e : En, cs = enC e ∧ Sm e ∧ U8 e := by
  obtain ⟨a, b, c, d, e, f, g, rfl⟩ := list7 hl
  have h0 : Tr enc Tryd.prog w base 5 [a] := h.field Tryd.underlying27 0 rfl 1 (by kernel_rfl)
  have h1 : Tr enc Tryd.prog w base 3 [b] := h.field Tryd.underlying27 1 rfl 1 (by kernel_rfl)
  have h2 : Tr enc Tryd.prog w base 3 [c] := h.field Tryd.underlying27 2 rfl 1 (by kernel_rfl)
  have h3 : Tr enc Tryd.prog w base 25 [d, e, f, g] := h.field Tryd.underlying27 3 rfl 4 (by kernel_rfl)
  have h4 : Tr enc Tryd.prog w base 5 [d] := h3.field Tryd.underlying25 0 rfl 1 (by kernel_rfl)
  have h5 : Tr enc Tryd.prog w base 9 [e] := h3.field Tryd.underlying25 1 rfl 1 (by kernel_rfl)
  have h6 : Tr enc Tryd.prog w base 9 [f] := h3.field Tryd.underlying25 2 rfl 1 (by kernel_rfl)
  have h7 : Tr enc Tryd.prog w base 9 [g] := h3.field Tryd.underlying25 3 rfl 1 (by kernel_rfl)
  obtain ⟨k, rfl, hk⟩ := h0.uint rfl Tryd.underlying5
  obtain ⟨c0, rfl, _, _⟩ := h1.i64 Tryd.underlying3
  obtain ⟨s, rfl, _, _⟩ := h2.i64 Tryd.underlying3
  obtain ⟨ok, rfl, hok⟩ := h4.uint rfl Tryd.underlying5
  obtain ⟨s0, rfl, z0⟩ := h5.str Tryd.underlying9
  obtain ⟨s1, rfl, z1⟩ := h6.str Tryd.underlying9
  obtain ⟨s2, rfl, z2⟩ := h7.str Tryd.underlying9
  simp only [IntKind.bits] at hk hok
  exact ⟨⟨k, c0, s, ok, s0, s1, s2⟩, rfl, ⟨z0, z1, z2⟩, ⟨by show (0 : Int) ≤ k; omega, by show (k : Int) < 256; omega, by show (0 : Int) ≤ ok; omega, by show (ok : Int) < 256; omega⟩⟩
/-- a slice that reads as these entries -/
def REn (w : World) (A : Option Addr) (es : List En) : Prop := es ≠ [] → ∃ b o, A = some ⟨b, o, none⟩ ∧ ∀ (i : Nat) (h : i < es.length), w.rangeAt b (o + i * 7) (enC es[i])
theorem Tr.ents {t : TypeId} {c : Value} (h : Tr enc Tryd.prog w base t [c]) (ht : Tryd.prog.underlying t = some (.slice 27)) :
    ∃ (A : Option Addr) (cap : Nat) (es : List En), c = .slice A es.length cap ∧ REn w A es ∧ (∀ e ∈ es, Sm e ∧ U8 e) ∧ es.length ≤ cap ∧ cap ≤ maxLen := by
  obtain ⟨A, n, cap, rfl, hl, hm, hg⟩ := h.slice ht 7 (by kernel_rfl)
  by_cases h0 : n = 0
  · subst h0
    exact ⟨A, cap, [], rfl, fun h => absurd rfl h, (by simp), hl, hm⟩
  · obtain ⟨a, rfl, hg2⟩ := hg (by omega)
    have hx : ∀ i, ∃ e : En, i < n → ((∀ j, j < 7 → w.cell? (a.add (i * 7 + j)) = (enC e)[j]?) ∧ Sm e ∧ U8 e) := by
      intro i
      by_cases hi : i < n
      · obtain ⟨cs, hcl, hcc, htr⟩ := hg2 i hi
        obtain ⟨e, rfl, h1, h2⟩ := htr.entry hcl
        exact ⟨e, fun _ => ⟨hcc, h1, h2⟩⟩
      · exact ⟨en0, fun h => absurd h hi⟩
    obtain ⟨f, hx'⟩ : ∃ f : Nat → En, ∀ i, i < n → ((∀ j, j < 7 → w.cell? (a.add (i * 7 + j)) = (enC (f i))[j]?) ∧ Sm (f i) ∧ U8 (f i)) := ⟨fun i => Classical.choose (hx i), fun i => Classical.choose_spec (hx i)⟩
    refine ⟨some a, cap, (List.range n).map f, by simp, ?_, ?_, by simpa using hl, hm⟩
    · intro _
      obtain ⟨b, o, spot⟩ := a
      have h1 := (hx' 0 (by omega)).1 0 (by omega)
      have hspot : spot = none := by
        have h2 : w.cell? (Addr.add ⟨b, o, spot⟩ (0 * 7 + 0)) = some (.int .u8 (f 0).k) := h1
        simpa [Addr.add] using World.cell?_spot h2
      subst hspot
      refine ⟨b, o, rfl, fun i hi => ?_⟩
      have hi' : i < n := by simpa using hi
      intro j v hj
      have h7 : j < 7 := by
        have := (List.getElem?_eq_some_iff.1 hj).1
        exact this
      have := (hx' i hi').1 j h7
      rw [Addr.add_lit] at this
      rw [Nat.add_assoc, this]
      simpa using hj
    · intro e he
      obtain ⟨i, hi, rfl⟩ := List.mem_map.1 he
      exact (hx' i (by simpa using hi)).2
end
end Go.Proofs.YtajgikjmoeemnaaDoor
