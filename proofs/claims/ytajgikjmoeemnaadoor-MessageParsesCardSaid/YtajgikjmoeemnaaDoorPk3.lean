import Derived.Test.YtajgikjmoeemnaaDoorPk2
import Derived.IntWalk
import Derived.Test.YtajgikjmoeemnaaDoorPk1
/-
  THE WALKS OF entry's MayOp, May, ballot.
-/
namespace Go.Proofs.YtajgikjmoeemnaaDoor
set_option maxRecDepth 100000
open Go.RowKit
set_option linter.unusedVariables false
set_option linter.unusedSimpArgs false

set_option maxHeartbeats 2000000 in
theorem mayOp_any (k : Int) (s0 s1 s2 : ByteArray) (w : World) (h0 : s0.size ≤ maxLen) (h1 : s1.size ≤ maxLen) (h2 : s2.size ≤ maxLen) : Calls Tryd.prog 80 #[.agg (opC k s0 s1 s2).toArray] w (RetV w (.bool (mayOpB k s0 s1 s2))) := by
  have H := Hp.nil w
  unfold maxLen at h0 h1 h2
  have hk : k = 1 ∨ k = 2 ∨ k = 3 ∨ k = 4 ∨ ((k == 1) = false ∧ (k == 2) = false ∧ (k == 3) = false ∧ (k == 4) = false) := by simp only [beq_eq_false_iff_ne]; omega
  rcases hk with rfl | rfl | rfl | rfl | ⟨k1, k2, k3, k4⟩
  all_goals
    go_enter Tryd.func80, Tryd.ntmps80
    go_wp2_with (first | ((with_reducible refine Hp.box H ?_); (first | refine ⟨rfl, [.pointer _], rfl, ?_⟩ | refine ⟨rfl, [.int _ _], rfl, ?_⟩ | refine ⟨rfl, [.slice _ _ _], rfl, ?_⟩ | refine ⟨rfl, [.bool _], rfl, ?_⟩ | refine ⟨rfl, [.string _], rfl, ?_⟩ | refine ⟨rfl, _, rfl, ?_⟩); (clear H; intro g1 w1 H); go_frame) | ((with_reducible refine Hp.ld H ?_); refine ⟨rfl, ?_⟩; refine ⟨c_look rfl, ?_⟩; refine ⟨_, _, rfl, ?_⟩; ((repeat ((fail_if_success refine ⟨_, _, _, .z, ?_⟩); refine hs ?_)); refine ⟨_, _, _, .z, ?_⟩); refine ⟨_, rfl, ?_⟩; go_frame))
    all_goals (go_ret; refine ⟨ret_bool ?_, H.below⟩; simp only [mayOpB, mtB, *]; first | (simp [*]; done) | (simp [*]; intros; omega) | (have z1 := emp_size s1 ‹_›; simp [*]; done) | (have z2 := emp_size s2 ‹_›; simp [*]; done) | (have z1 := emp_size s1 ‹_›; exfalso; omega) | (have z2 := emp_size s2 ‹_›; simp [*]; omega) | (have z1 := emp_size s1 ‹_›; simp [*]; omega))
theorem b_noop : Tryd.prog.built 27 [(0, .int .u8 1)] = some (enC noop).toArray := by kernel_rfl
theorem mayOp_b (k : Int) (s0 s1 s2 : ByteArray) (w : World) (b : Bool) (ho : mayOpB k s0 s1 s2 = b) (h0 : s0.size ≤ maxLen) (h1 : s1.size ≤ maxLen) (h2 : s2.size ≤ maxLen) : Calls Tryd.prog 80 #[.agg (opC k s0 s1 s2).toArray] w (RetV w (.bool b)) := by
  subst ho
  exact mayOp_any k s0 s1 s2 w h0 h1 h2
/-- the texts of an entry are of a length that there is -/
def Sm (e : En) : Prop := e.s0.size ≤ maxLen ∧ e.s1.size ≤ maxLen ∧ e.s2.size ≤ maxLen
set_option maxHeartbeats 2000000 in
theorem may_any (e : En) (w : World) (hs : Sm e) : Calls Tryd.prog 60 #[.agg (enC e).toArray] w (RetV w (.bool (mayB e))) := by
  have H := Hp.nil w
  obtain ⟨h0, h1, h2⟩ := hs
  cases hk : (e.k == 1)
  · have hn : isNoop e = false := by rw [isNoop, hk]; rfl
    cases ho : mayOpB e.ok e.s0 e.s1 e.s2
    all_goals
      go_enter Tryd.func60, Tryd.ntmps60
      go_wp2_with (first | ((with_reducible refine Hp.box H ?_); (first | refine ⟨rfl, [.pointer _], rfl, ?_⟩ | refine ⟨rfl, [.int _ _], rfl, ?_⟩ | refine ⟨rfl, [.slice _ _ _], rfl, ?_⟩ | refine ⟨rfl, [.bool _], rfl, ?_⟩ | refine ⟨rfl, [.string _], rfl, ?_⟩ | refine ⟨rfl, _, rfl, ?_⟩); (clear H; intro g1 w1 H); go_frame) | ((with_reducible refine Hp.ld H ?_); refine ⟨rfl, ?_⟩; refine ⟨c_look rfl, ?_⟩; refine ⟨_, _, rfl, ?_⟩; ((repeat ((fail_if_success refine ⟨_, _, _, .z, ?_⟩); refine hs ?_)); refine ⟨_, _, _, .z, ?_⟩); refine ⟨_, rfl, ?_⟩; go_frame) | ((with_reducible refine Hp.lds H ?_); refine ⟨rfl, by kernel_rfl, ?_⟩; refine ⟨_, s_look rfl, ?_⟩; refine ⟨_, _, rfl, ?_⟩; ((repeat ((fail_if_success refine ⟨_, _, _, .z, ?_⟩); refine hs ?_)); refine ⟨_, _, _, .z, ?_⟩); refine ⟨opC e.ok e.s0 e.s1 e.s2, rfl, rfl, ?_⟩; go_frame) | ((with_reducible refine (mayOp_b _ _ _ _ _ _ ho h0 h1 h2).mono ?_); rintro _ w1 ⟨rfl, hb⟩; replace H := H.call hb; clear hb))
      all_goals (go_ret; refine ⟨ret_bool ?_, H.below⟩; rw [mayB, hn]; simp [*] <;> (first | rfl | (intros; omega)))
  · have hm : mayB e = isNoop e := by
      have : (e.k == 2) = false := by rw [beq_iff_eq] at hk; rw [hk]; rfl
      rw [mayB, this, Bool.false_and, Bool.or_false]
    go_enter Tryd.func60, Tryd.ntmps60
    go_wp2_with (first | ((with_reducible refine Hp.box H ?_); (first | refine ⟨rfl, [.pointer _], rfl, ?_⟩ | refine ⟨rfl, [.int _ _], rfl, ?_⟩ | refine ⟨rfl, [.slice _ _ _], rfl, ?_⟩ | refine ⟨rfl, [.bool _], rfl, ?_⟩ | refine ⟨rfl, [.string _], rfl, ?_⟩ | refine ⟨rfl, _, rfl, ?_⟩); (clear H; intro g1 w1 H); go_frame) | ((with_reducible refine Hp.ld H ?_); refine ⟨rfl, ?_⟩; refine ⟨c_look rfl, ?_⟩; refine ⟨_, _, rfl, ?_⟩; ((repeat ((fail_if_success refine ⟨_, _, _, .z, ?_⟩); refine hs ?_)); refine ⟨_, _, _, .z, ?_⟩); refine ⟨_, rfl, ?_⟩; go_frame) | ((with_reducible refine Hp.lda H ?_); refine ⟨rfl, by kernel_rfl, ?_⟩; refine ⟨_, s_look rfl, ?_⟩; refine ⟨_, rfl, ?_⟩; ((repeat ((fail_if_success refine ⟨_, _, _, .z, ?_⟩); refine hs ?_)); refine ⟨_, _, _, .z, ?_⟩); refine ⟨rfl, ?_⟩; go_frame) | ((with_reducible refine Hp.bdl (t := 27) (parts := [_]) H ?_); refine ⟨rfl, _, b_noop, ?_⟩; go_frame) | ((with_reducible refine wl_eqEn ?_); refine ⟨rfl, _, _, rfl, rfl, ?_⟩; go_frame))
    go_ret
    exact ⟨ret_bool (by rw [hm, enEq_noop]), H.below⟩
end Go.Proofs.YtajgikjmoeemnaaDoor

/-
  THE WALKS OF entry's pen: put, write, get, read.
-/
namespace Go.Proofs.YtajgikjmoeemnaaDoor
set_option maxRecDepth 100000
open Go.RowKit
set_option linter.unusedVariables false
set_option linter.unusedSimpArgs false

/-- a pen that reads -/
abbrev penR (g : Nat) (A : Option Addr) (n c : Nat) (r : Rs) : Item := .blk g 123 [.slice A n c, .int .i64 r.at_, .bool r.bad]
theorem get_r (A : Option Addr) (c : Nat) (l : List UInt8) (at_ width : Int) (w : World) (hr : Rd w A l) (hc : l.length ≤ c) (hm : c ≤ maxLen) :
    Calls Tryd.prog 65 #[.slice A l.length c, .int .i64 at_, .int .i64 width] w (RetV w (.tuple #[.int .i64 (getN l at_ width), .int .i64 (getP l at_ width), .int .i64 (getE l at_ width)])) := get_any A c l at_ width w hr hc hm
set_option maxHeartbeats 2000000 in
theorem pget_any (A : Option Addr) (c : Nat) (l : List UInt8) (r : Rs) (width : Int) (g : Nat) (w0 w : World) (L : List Item) (hr : Rd w0 A l) (hc : l.length ≤ c) (hm : c ≤ maxLen) (H : Hp w0 w (penR g A l.length c r :: L)) :
    Calls Tryd.prog 91 #[.pointer (some ⟨g, 0, none⟩), .int .i64 width] w (RetH w0 (penR g A l.length c (gR l r width) :: L) (.int .i64 (gN l r width))) := by
  obtain ⟨at_, bad⟩ := r
  cases he : (getE l at_ width != 0)
  all_goals
    cases bad
    all_goals
      go_enter Tryd.func91, Tryd.ntmps91
      go_wp2_with (first | (fail))
      ((with_reducible refine wp_region_hpK H (by kernel_rfl) (by kernel_rfl) ?_); intro _ KQ hKQ; (repeat (first | ((with_reducible refine hq_ld ?_); refine ⟨rfl, ?_⟩; refine ⟨c_look rfl, ?_⟩; refine ⟨_, _, rfl, ?_⟩; ((repeat ((fail_if_success refine ⟨_, _, _, .z, ?_⟩); refine hs ?_)); refine ⟨_, _, _, .z, ?_⟩); refine ⟨_, rfl, ?_⟩; go_frame) | go_big_quiet_step ((first | (with_reducible exact hq_call (get_r A c l at_ width _ (HpS.rd _ hr) hc hm)))))); (with_reducible refine wpQuiet_nil (hKQ _ ?_)); clear hKQ; clear KQ H; intro w1 H)
      go_wp2_with (first | ((with_reducible refine Hp.ld H ?_); refine ⟨rfl, ?_⟩; refine ⟨c_look rfl, ?_⟩; refine ⟨_, _, rfl, ?_⟩; ((repeat ((fail_if_success refine ⟨_, _, _, .z, ?_⟩); refine hs ?_)); refine ⟨_, _, _, .z, ?_⟩); refine ⟨_, rfl, ?_⟩; go_frame) | ((with_reducible refine Hp.stv H ?_); refine ⟨rfl, ?_⟩; refine ⟨c_look rfl, ?_⟩; (first | refine ⟨.bool _, rfl, ?_⟩ | refine ⟨.int _ _, rfl, ?_⟩ | refine ⟨.string _, rfl, ?_⟩ | refine ⟨.slice _ _ _, rfl, ?_⟩ | refine ⟨.pointer _, rfl, ?_⟩); refine ⟨rfl, _, _, rfl, ?_⟩; ((repeat ((fail_if_success refine ⟨_, _, _, .z, ?_⟩); refine hs ?_)); refine ⟨_, _, _, .z, ?_⟩); refine ⟨⟨_, rfl⟩, ?_⟩; (clear H; intro w1 H; simp only [List.set] at H); go_frame))
      go_ret
      refine ⟨ret_int ?_, ?_⟩
      · simp only [gN, gB, he]; rfl
      · simp only [gR, gB, he]; exact H
/-- its reader of texts; the text's place is a cell of the call's own -/
theorem read_s (A : Option Addr) (c : Nat) (l : List UInt8) (at_ : Int) (w : World) (hr : Rd w A l) (hc : l.length ≤ c) (hm : c ≤ maxLen) :
    Calls Tryd.prog 85 #[.slice A l.length c, .int .i64 at_] w (RetV w (.tuple #[.string (bs (readS l at_)), .int .i64 (readP l at_), .int .i64 (readE l at_)])) := read_any A c l at_ w hr hc hm
/-- what then lies where the text was to be put -/
def tV (l : List UInt8) (r : Rs) (s : ByteArray) : ByteArray := if tB l r then s else bs (tS l r)
theorem set_same {cs : List Value} {off : Nat} {v : Value} (h : cs[off]? = some v) : cs.set off v = cs := by
  obtain ⟨h1, h2⟩ := List.getElem?_eq_some_iff.1 h
  rw [← h2, List.set_getElem_self]
set_option maxHeartbeats 2000000 in
theorem pread_any (A : Option Addr) (c : Nat) (l : List UInt8) (r : Rs) (g g2 off : Nat) (t : TypeId) (cs : List Value) (s : ByteArray) (w0 w : World) (L : List Item) (hr : Rd w0 A l) (hc : l.length ≤ c) (hm : c ≤ maxLen) (H : Hp w0 w (penR g A l.length c r :: .blk g2 t cs :: L))
    (hs : cs[off]? = some (.string s)) :
    Calls Tryd.prog 93 #[.pointer (some ⟨g, 0, none⟩), .pointer (some ⟨g2, off, none⟩)] w (RetH w0 (penR g A l.length c (tR l r) :: .blk g2 t (cs.set off (.string (tV l r s))) :: L) (.tuple #[])) := by
  obtain ⟨at_, bad⟩ := r
  cases he : (readE l at_ != 0)
  all_goals
    cases bad
    all_goals
      go_enter Tryd.func93, Tryd.ntmps93
      go_wp2_with (first | (fail))
      ((with_reducible refine wp_region_hpK H (by kernel_rfl) (by kernel_rfl) ?_); intro _ KQ hKQ; (repeat (first | ((with_reducible refine hq_ld ?_); refine ⟨rfl, ?_⟩; refine ⟨c_look rfl, ?_⟩; refine ⟨_, _, rfl, ?_⟩; (first | refine ⟨_, _, _, .z, ?_⟩ | refine ⟨_, _, _, .s .z, ?_⟩); refine ⟨_, rfl, ?_⟩; go_frame) | go_big_quiet_step ((first | (with_reducible exact hq_call (read_s A c l at_ _ (HpS.rd _ hr) hc hm)))))); (with_reducible refine wpQuiet_nil (hKQ _ ?_)); clear hKQ; clear KQ H; intro w1 H)
      go_wp2_with (first | ((with_reducible refine Hp.ld H ?_); refine ⟨rfl, ?_⟩; refine ⟨c_look rfl, ?_⟩; refine ⟨_, _, rfl, ?_⟩; (first | refine ⟨_, _, _, .z, ?_⟩ | refine ⟨_, _, _, .s .z, ?_⟩); refine ⟨_, rfl, ?_⟩; go_frame) | ((with_reducible refine Hp.stv H ?_); refine ⟨rfl, ?_⟩; refine ⟨c_look rfl, ?_⟩; (first | refine ⟨.bool _, rfl, ?_⟩ | refine ⟨.int _ _, rfl, ?_⟩ | refine ⟨.string _, rfl, ?_⟩ | refine ⟨.slice _ _ _, rfl, ?_⟩ | refine ⟨.pointer _, rfl, ?_⟩); refine ⟨rfl, _, _, rfl, ?_⟩; (first | refine ⟨_, _, _, .z, ?_⟩ | refine ⟨_, _, _, .s .z, ?_⟩); refine ⟨(by first | exact ⟨_, rfl⟩ | exact ⟨_, hs⟩), ?_⟩; (clear H; intro w1 H; simp only [List.set] at H); go_frame))
      go_end0
      refine ⟨rfl, ?_⟩
      simp only [tR, tB, tV, tS, he]
      first | exact H | (rw [show (cs.set off (Value.string s)) = cs from set_same hs]; exact H) | (have := set_same hs; simp; rw [this]; exact H)
end Go.Proofs.YtajgikjmoeemnaaDoor

/-
  THE WALKS OF entry's texts, entry, Bytes.
-/
namespace Go.Proofs.YtajgikjmoeemnaaDoor
set_option maxRecDepth 100000
open Go.RowKit
set_option linter.unusedVariables false
set_option linter.unusedSimpArgs false
theorem i3_0 (a b c : Addr) (w : World) : (Instr.index 137 (.agg #[.pointer (some a), .pointer (some b), .pointer (some c)]) (.int .i64 0)).run Tryd.prog w = .ok (.pointer (some a)) w := by kernel_rfl
theorem i3_1 (a b c : Addr) (w : World) : (Instr.index 137 (.agg #[.pointer (some a), .pointer (some b), .pointer (some c)]) (.int .i64 1)).run Tryd.prog w = .ok (.pointer (some b)) w := by kernel_rfl
theorem i3_2 (a b c : Addr) (w : World) : (Instr.index 137 (.agg #[.pointer (some a), .pointer (some b), .pointer (some c)]) (.int .i64 2)).run Tryd.prog w = .ok (.pointer (some c)) w := by kernel_rfl
/-- the kinds are bytes -/
def U8 (e : En) : Prop := 0 ≤ e.k ∧ e.k < 256 ∧ 0 ≤ e.ok ∧ e.ok < 256
theorem may_b (e : En) (w : World) (b : Bool) (hb : mayB e = b) (hs : Sm e) : Calls Tryd.prog 60 #[.agg (enC e).toArray] w (RetV w (.bool b)) := by
  subst hb
  exact may_any e w hs
end Go.Proofs.YtajgikjmoeemnaaDoor

/-
  ARGUMENTS OPENED: entries, slices of entries.
-/
namespace Go.Proofs.YtajgikjmoeemnaaDoor
set_option maxRecDepth 100000
open Go.ChangeShapes Go.WideShapes Go.ChangeAt Go.RowKit
set_option linter.unusedVariables false

theorem list7 {α : Type} {l : List α} (h : l.length = 7) : ∃ a b c d e f g, l = [a, b, c, d, e, f, g] := by
  match l, h with
  | [a, b, c, d, e, f, g], _ => exact ⟨a, b, c, d, e, f, g, rfl⟩
section
variable {H : Type} {enc : TypeId × Value → H} {w : World} {base : Nat}
theorem Tr.entry {cs : List Value} (h : Tr enc Tryd.prog w base 27 cs) (hl : cs.length = 7) : ∃ e : En, cs = enC e ∧ Sm e ∧ U8 e := by
  obtain ⟨a, b, c, d, e, f, g, rfl⟩ := list7 hl
  have h0 : Tr enc Tryd.prog w base 5 [a] := h.field Tryd.underlying27 0 rfl 1 (by kernel_rfl)
  have h1 : Tr enc Tryd.prog w base 3 [b] := h.field Tryd.underlying27 1 rfl 1 (by kernel_rfl)
  have h2 : Tr enc Tryd.prog w base 3 [c] := h.field Tryd.underlying27 2 rfl 1 (by kernel_rfl)
  have h3 : Tr enc Tryd.prog w base 25 [d, e, f, g] := h.field Tryd.underlying27 3 rfl 4 (by kernel_rfl)
  have h4 : Tr enc Tryd.prog w base 5 [d] := h3.field Tryd.underlying25 0 rfl 1 (by kernel_rfl)
  have h5 : Tr enc Tryd.prog w base 9 [e] := h3.field Tryd.underlying25 1 rfl 1 (by kernel_rfl)
  have h6 : Tr enc Tryd.prog w base 9 [f] := h3.field Tryd.underlying25 2 rfl 1 (by kernel_rfl)
  have h7 : Tr enc Tryd.prog w base 9 [g] := h3.field Tryd.underlying25 3 rfl 1 (by kernel_rfl)
  obtain ⟨k, rfl, hk⟩ := h0.uint rfl Tryd.underlying5
  obtain ⟨c0, rfl, _, _⟩ := h1.i64 Tryd.underlying3
  obtain ⟨s, rfl, _, _⟩ := h2.i64 Tryd.underlying3
  obtain ⟨ok, rfl, hok⟩ := h4.uint rfl Tryd.underlying5
  obtain ⟨s0, rfl, z0⟩ := h5.str Tryd.underlying9
  obtain ⟨s1, rfl, z1⟩ := h6.str Tryd.underlying9
  obtain ⟨s2, rfl, z2⟩ := h7.str Tryd.underlying9
  simp only [IntKind.bits] at hk hok
  exact ⟨⟨k, c0, s, ok, s0, s1, s2⟩, rfl, ⟨z0, z1, z2⟩, ⟨by show (0 : Int) ≤ k; omega, by show (k : Int) < 256; omega, by show (0 : Int) ≤ ok; omega, by show (ok : Int) < 256; omega⟩⟩
end
end Go.Proofs.YtajgikjmoeemnaaDoor
