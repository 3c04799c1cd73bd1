import Derived.Test.YtiieakndjheknaaDoorPk3
import Derived.Test.YtiieakndjheknaaDoorPk2
import Derived.Laws.RangeString
/-
  MESSAGES: their cells; reports; a message that came in.
-/
namespace Go.Proofs.YtiieakndjheknaaDoor
set_option maxRecDepth 100000
open Go.ChangeShapes Go.WideShapes Go.ChangeAt Go.RowKit
set_option linter.unusedVariables false

structure Mg where
  k : Int
  fr : Int
  to : Int
  br : Int
  bp : Int
  ix : Int
  cm : Int
  nc : Int
  ck : Int
  ct : Int
  sq : Int
  e : En
  ok : Int
  o0 : ByteArray
  o1 : ByteArray
  o2 : ByteArray
  re : Int
  rf : Bool
  rv : ByteArray
  rA : Option Addr
  rn : Nat
  rc : Nat
  yA : Option Addr
  yn : Nat
  yc : Nat
def mgC (m : Mg) : List Value := [.int .u8 m.k, .int .i64 m.fr, .int .i64 m.to, .int .i64 m.br, .int .i64 m.bp, .int .i64 m.ix, .int .i64 m.cm, .int .i64 m.nc, .int .i64 m.ck, .int .i64 m.ct, .int .i64 m.sq,
  .int .u8 m.e.k, .int .i64 m.e.c, .int .i64 m.e.s, .int .u8 m.e.ok, .string m.e.s0, .string m.e.s1, .string m.e.s2, .int .u8 m.ok, .string m.o0, .string m.o1, .string m.o2, .int .i64 m.re, .bool m.rf, .string m.rv, .slice m.rA m.rn m.rc, .slice m.yA m.yn m.yc]
def mg0 : Mg := ⟨0, 0, 0, 0, 0, 0, 0, 0, 0, 0, 0, en0, 0, .empty, .empty, .empty, 0, false, .empty, none, 0, 0, none, 0, 0⟩
structure Rp where
  ix : Int
  st : Int
  r : Int
  p : Int
  e : En
def rpC (x : Rp) : List Value := [.int .i64 x.ix, .int .u8 x.st, .int .i64 x.r, .int .i64 x.p, .int .u8 x.e.k, .int .i64 x.e.c, .int .i64 x.e.s, .int .u8 x.e.ok, .string x.e.s0, .string x.e.s1, .string x.e.s2]
def rp0 : Rp := ⟨0, 0, 0, 0, en0⟩
/-- int64 -/
def I64 (n : Int) : Prop := -9223372036854775808 ≤ n ∧ n ≤ 9223372036854775807
def RpOk (x : Rp) : Prop := I64 x.ix ∧ (0 ≤ x.st ∧ x.st < 256) ∧ I64 x.r ∧ I64 x.p ∧ Sm x.e ∧ U8 x.e ∧ I64 x.e.c ∧ I64 x.e.s
/-- a slice that reads as these reports -/
def RRp (w : World) (A : Option Addr) (rs : List Rp) : Prop := rs ≠ [] → ∃ b o, A = some ⟨b, o, none⟩ ∧ ∀ (i : Nat) (h : i < rs.length), w.rangeAt b (o + i * 11) (rpC rs[i])
/-- the numbers and texts of a message are such as there are -/
def MgN (m : Mg) : Prop := (0 ≤ m.k ∧ m.k < 256) ∧ I64 m.fr ∧ I64 m.to ∧ I64 m.br ∧ I64 m.bp ∧ I64 m.ix ∧ I64 m.cm ∧ I64 m.nc ∧ I64 m.ck ∧ I64 m.ct ∧ I64 m.sq ∧ Sm m.e ∧ U8 m.e ∧ I64 m.e.c ∧ I64 m.e.s ∧ (0 ≤ m.ok ∧ m.ok < 256) ∧ m.o0.size ≤ maxLen ∧ m.o1.size ≤ maxLen ∧ m.o2.size ≤ maxLen ∧ I64 m.re ∧ m.rv.size ≤ maxLen
/-- a message that reads as these reports, these bytes -/
def MgR (w : World) (m : Mg) (rs : List Rp) (l : List UInt8) : Prop := m.rn = rs.length ∧ RRp w m.rA rs ∧ (∀ x ∈ rs, RpOk x) ∧ m.rn ≤ m.rc ∧ m.rc ≤ maxLen ∧ m.yn = l.length ∧ Rd w m.yA l ∧ m.yn ≤ m.yc ∧ m.yc ≤ maxLen
theorem RRp.below {w w' : World} {A : Option Addr} {rs : List Rp} (h : RRp w A rs) (hb : Below w.heap.size w w') : RRp w' A rs := by
  intro hn
  obtain ⟨b, o, e, hc⟩ := h hn
  exact ⟨b, o, e, fun i hi j v hj => (hb.cell (World.block_lt_of_cell? w _ (hc i hi j v hj))).trans (hc i hi j v hj)⟩
theorem MgR.below {w w' : World} {m : Mg} {rs : List Rp} {l : List UInt8} (h : MgR w m rs l) (hb : Below w.heap.size w w') : MgR w' m rs l := ⟨h.1, h.2.1.below hb, h.2.2.1, h.2.2.2.1, h.2.2.2.2.1, h.2.2.2.2.2.1, h.2.2.2.2.2.2.1.below hb, h.2.2.2.2.2.2.2⟩
theorem list11 {α : Type} {l : List α} (h : l.length = 11) : ∃ x0 x1 x2 x3 x4 x5 x6 x7 x8 x9 x10, l = [x0, x1, x2, x3, x4, x5, x6, x7, x8, x9, x10] := by
  match l, h with
  | [x0, x1, x2, x3, x4, x5, x6, x7, x8, x9, x10], _ => exact ⟨x0, x1, x2, x3, x4, x5, x6, x7, x8, x9, x10, rfl⟩
theorem list27 {α : Type} {l : List α} (h : l.length = 27) : ∃ x0 x1 x2 x3 x4 x5 x6 x7 x8 x9 x10 x11 x12 x13 x14 x15 x16 x17 x18 x19 x20 x21 x22 x23 x24 x25 x26, l = [x0, x1, x2, x3, x4, x5, x6, x7, x8, x9, x10, x11, x12, x13, x14, x15, x16, x17, x18, x19, x20, x21, x22, x23, x24, x25, x26] := by
  match l, h with
  | [x0, x1, x2, x3, x4, x5, x6, x7, x8, x9, x10, x11, x12, x13, x14, x15, x16, x17, x18, x19, x20, x21, x22, x23, x24, x25, x26], _ => exact ⟨x0, x1, x2, x3, x4, x5, x6, x7, x8, x9, x10, x11, x12, x13, x14, x15, x16, x17, x18, x19, x20, x21, x22, x23, x24, x25, x26, rfl⟩
section
variable {H : Type} {enc : TypeId × Value → H} {w : World} {base : Nat}
theorem Tr.i64' {c : Value} (h : Tr enc Tryd.prog w base 3 [c]) : ∃ n : Int, c = .int .i64 n ∧ I64 n := by
  obtain ⟨n, h1, h2, h3⟩ := h.i64 Tryd.underlying3
  exact ⟨n, h1, h2, h3⟩
theorem Tr.u8' {c : Value} (h : Tr enc Tryd.prog w base 5 [c]) : ∃ n : Int, c = .int .u8 n ∧ 0 ≤ n ∧ n < 256 := by
  obtain ⟨n, h1, h2⟩ := h.uint rfl Tryd.underlying5
  simp only [IntKind.bits] at h2
  exact ⟨n, h1, by omega, by omega⟩
theorem Tr.entry' {cs : List Value} (h : Tr enc Tryd.prog w base 27 cs) (hl : cs.length = 7) : ∃ e : En, cs = enC e ∧ Sm e ∧ U8 e ∧ I64 e.c ∧ I64 e.s := by
  obtain ⟨e, rfl, h1, h2⟩ := h.entry hl
  have k1 : Tr enc Tryd.prog w base 3 [.int .i64 e.c] := h.field Tryd.underlying27 1 rfl 1 (by kernel_rfl)
  have k2 : Tr enc Tryd.prog w base 3 [.int .i64 e.s] := h.field Tryd.underlying27 2 rfl 1 (by kernel_rfl)
  obtain ⟨n, e1, g1⟩ := k1.i64'
  obtain ⟨n', e2, g2⟩ := k2.i64'
  injection e1 with _ e1
  injection e2 with _ e2
  subst e1 e2
  exact ⟨e, rfl, h1, h2, g1, g2⟩
theorem Tr.report {cs : List Value} (h : Tr enc Tryd.prog w base 71 cs) (hl : cs.length = 11) : ∃ x : Rp, cs = rpC x ∧ RpOk x := by
  obtain ⟨x0, x1, x2, x3, x4, x5, x6, x7, x8, x9, x10, rfl⟩ := list11 hl
  have h0 : Tr enc Tryd.prog w base 3 [x0] := h.field Tryd.underlying71 0 rfl 1 (by kernel_rfl)
  have h1 : Tr enc Tryd.prog w base 5 [x1] := h.field Tryd.underlying71 1 rfl 1 (by kernel_rfl)
  have h2 : Tr enc Tryd.prog w base 23 [x2, x3] := h.field Tryd.underlying71 2 rfl 2 (by kernel_rfl)
  have h3 : Tr enc Tryd.prog w base 27 [x4, x5, x6, x7, x8, x9, x10] := h.field Tryd.underlying71 3 rfl 7 (by kernel_rfl)
  have h4 : Tr enc Tryd.prog w base 3 [x2] := h2.field Tryd.underlying23 0 rfl 1 (by kernel_rfl)
  have h5 : Tr enc Tryd.prog w base 3 [x3] := h2.field Tryd.underlying23 1 rfl 1 (by kernel_rfl)
  obtain ⟨ix, rfl, g0⟩ := h0.i64'
  obtain ⟨st, rfl, g1⟩ := h1.u8'
  obtain ⟨r, rfl, g2⟩ := h4.i64'
  obtain ⟨p, rfl, g3⟩ := h5.i64'
  obtain ⟨e, he, g4, g5, g6, g7⟩ := h3.entry' rfl
  have hcs : [.int .i64 ix, .int .u8 st, .int .i64 r, .int .i64 p, x4, x5, x6, x7, x8, x9, x10] = rpC ⟨ix, st, r, p, e⟩ := by
    show [.int .i64 ix, .int .u8 st, .int .i64 r, .int .i64 p] ++ [x4, x5, x6, x7, x8, x9, x10] = _
    rw [he]
    rfl
  exact ⟨⟨ix, st, r, p, e⟩, hcs, g0, g1, g2, g3, g4, g5, g6, g7⟩
theorem Tr.reports {c : Value} (h : Tr enc Tryd.prog w base 31 [c]) :
    ∃ (A : Option Addr) (cap : Nat) (rs : List Rp), c = .slice A rs.length cap ∧ RRp w A rs ∧ (∀ x ∈ rs, RpOk x) ∧ rs.length ≤ cap ∧ cap ≤ maxLen := by
  obtain ⟨A, n, cap, rfl, hl, hm, hg⟩ := h.slice Tryd.underlying31 11 (by kernel_rfl)
  by_cases h0 : n = 0
  · subst h0
    exact ⟨A, cap, [], rfl, fun h => absurd rfl h, (by simp), hl, hm⟩
  · obtain ⟨a, rfl, hg2⟩ := hg (by omega)
    have hx : ∀ i, ∃ x : Rp, i < n → ((∀ j, j < 11 → w.cell? (a.add (i * 11 + j)) = (rpC x)[j]?) ∧ RpOk x) := by
      intro i
      by_cases hi : i < n
      · obtain ⟨cs, hcl, hcc, htr⟩ := hg2 i hi
        obtain ⟨e, rfl, h1⟩ := htr.report hcl
        exact ⟨e, fun _ => ⟨hcc, h1⟩⟩
      · exact ⟨rp0, fun h => absurd h hi⟩
    obtain ⟨f, hx'⟩ : ∃ f : Nat → Rp, ∀ i, i < n → ((∀ j, j < 11 → w.cell? (a.add (i * 11 + j)) = (rpC (f i))[j]?) ∧ RpOk (f i)) := ⟨fun i => Classical.choose (hx i), fun i => Classical.choose_spec (hx i)⟩
    refine ⟨some a, cap, (List.range n).map f, by simp, ?_, ?_, by simpa using hl, hm⟩
    · intro _
      obtain ⟨b, o, spot⟩ := a
      have h1 := (hx' 0 (by omega)).1 0 (by omega)
      have hspot : spot = none := by
        have h2 : w.cell? (Addr.add ⟨b, o, spot⟩ (0 * 11 + 0)) = some (.int .i64 (f 0).ix) := h1
        simpa [Addr.add] using World.cell?_spot h2
      subst hspot
      refine ⟨b, o, rfl, fun i hi => ?_⟩
      have hi' : i < n := by simpa using hi
      intro j v hj
      have h7 : j < 11 := by
        have := (List.getElem?_eq_some_iff.1 hj).1
        exact this
      have := (hx' i hi').1 j h7
      rw [Addr.add_lit] at this
      rw [Nat.add_assoc, this]
      simpa using hj
    · intro e he
      obtain ⟨i, hi, rfl⟩ := List.mem_map.1 he
      exact (hx' i (by simpa using hi)).2
theorem Tr.msg {cs : List Value} (h : Tr enc Tryd.prog w base 34 cs) (hl : cs.length = 27) : ∃ (m : Mg) (rs : List Rp) (l : List UInt8), cs = mgC m ∧ MgN m ∧ MgR w m rs l := by
  obtain ⟨x0, x1, x2, x3, x4, x5, x6, x7, x8, x9, x10, x11, x12, x13, x14, x15, x16, x17, x18, x19, x20, x21, x22, x23, x24, x25, x26, rfl⟩ := list27 hl
  have f0 : Tr enc Tryd.prog w base 5 [x0] := h.field Tryd.underlying34 0 rfl 1 (by kernel_rfl)
  have f1 : Tr enc Tryd.prog w base 3 [x1] := h.field Tryd.underlying34 1 rfl 1 (by kernel_rfl)
  have f2 : Tr enc Tryd.prog w base 3 [x2] := h.field Tryd.underlying34 2 rfl 1 (by kernel_rfl)
  have f3 : Tr enc Tryd.prog w base 23 [x3, x4] := h.field Tryd.underlying34 3 rfl 2 (by kernel_rfl)
  have f4 : Tr enc Tryd.prog w base 3 [x5] := h.field Tryd.underlying34 4 rfl 1 (by kernel_rfl)
  have f5 : Tr enc Tryd.prog w base 3 [x6] := h.field Tryd.underlying34 5 rfl 1 (by kernel_rfl)
  have f6 : Tr enc Tryd.prog w base 3 [x7] := h.field Tryd.underlying34 6 rfl 1 (by kernel_rfl)
  have f7 : Tr enc Tryd.prog w base 3 [x8] := h.field Tryd.underlying34 7 rfl 1 (by kernel_rfl)
  have f8 : Tr enc Tryd.prog w base 3 [x9] := h.field Tryd.underlying34 8 rfl 1 (by kernel_rfl)
  have f9 : Tr enc Tryd.prog w base 3 [x10] := h.field Tryd.underlying34 9 rfl 1 (by kernel_rfl)
  have f10 : Tr enc Tryd.prog w base 27 [x11, x12, x13, x14, x15, x16, x17] := h.field Tryd.underlying34 10 rfl 7 (by kernel_rfl)
  have f11 : Tr enc Tryd.prog w base 25 [x18, x19, x20, x21] := h.field Tryd.underlying34 11 rfl 4 (by kernel_rfl)
  have f12 : Tr enc Tryd.prog w base 30 [x22, x23, x24] := h.field Tryd.underlying34 12 rfl 3 (by kernel_rfl)
  have f13 : Tr enc Tryd.prog w base 31 [x25] := h.field Tryd.underlying34 13 rfl 1 (by kernel_rfl)
  have f14 : Tr enc Tryd.prog w base 32 [x26] := h.field Tryd.underlying34 14 rfl 1 (by kernel_rfl)
  have b0 : Tr enc Tryd.prog w base 3 [x3] := f3.field Tryd.underlying23 0 rfl 1 (by kernel_rfl)
  have b1 : Tr enc Tryd.prog w base 3 [x4] := f3.field Tryd.underlying23 1 rfl 1 (by kernel_rfl)
  have o0 : Tr enc Tryd.prog w base 5 [x18] := f11.field Tryd.underlying25 0 rfl 1 (by kernel_rfl)
  have o1 : Tr enc Tryd.prog w base 9 [x19] := f11.field Tryd.underlying25 1 rfl 1 (by kernel_rfl)
  have o2 : Tr enc Tryd.prog w base 9 [x20] := f11.field Tryd.underlying25 2 rfl 1 (by kernel_rfl)
  have o3 : Tr enc Tryd.prog w base 9 [x21] := f11.field Tryd.underlying25 3 rfl 1 (by kernel_rfl)
  have r0 : Tr enc Tryd.prog w base 28 [x22] := f12.field Tryd.underlying30 0 rfl 1 (by kernel_rfl)
  have r1 : Tr enc Tryd.prog w base 4 [x23] := f12.field Tryd.underlying30 1 rfl 1 (by kernel_rfl)
  have r2 : Tr enc Tryd.prog w base 9 [x24] := f12.field Tryd.underlying30 2 rfl 1 (by kernel_rfl)
  obtain ⟨k, rfl, g0⟩ := f0.u8'
  obtain ⟨fr, rfl, g1⟩ := f1.i64'
  obtain ⟨to, rfl, g2⟩ := f2.i64'
  obtain ⟨br, rfl, g3⟩ := b0.i64'
  obtain ⟨bp, rfl, g4⟩ := b1.i64'
  obtain ⟨ix, rfl, g5⟩ := f4.i64'
  obtain ⟨cm, rfl, g6⟩ := f5.i64'
  obtain ⟨nc, rfl, g7⟩ := f6.i64'
  obtain ⟨ck, rfl, g8⟩ := f7.i64'
  obtain ⟨ct, rfl, g9⟩ := f8.i64'
  obtain ⟨sq, rfl, g10⟩ := f9.i64'
  obtain ⟨e, he, g11, g12, g13, g14⟩ := f10.entry' rfl
  obtain ⟨ok, rfl, g15⟩ := o0.u8'
  obtain ⟨p0, rfl, g16⟩ := o1.str Tryd.underlying9
  obtain ⟨p1, rfl, g17⟩ := o2.str Tryd.underlying9
  obtain ⟨p2, rfl, g18⟩ := o3.str Tryd.underlying9
  obtain ⟨re, rfl, g19, g20⟩ := r0.i64 Tryd.underlying28
  obtain ⟨rf, rfl⟩ := r1.bool Tryd.underlying4
  obtain ⟨rv, rfl, g21⟩ := r2.str Tryd.underlying9
  obtain ⟨rA, rc, rs, rfl, q0, q1, q2, q3⟩ := f13.reports
  obtain ⟨yA, yc, l, rfl, q4, q5, q6⟩ := f14.bytes Tryd.underlying32 Tryd.underlying5 (by kernel_rfl)
  have hcs : [.int .u8 k, .int .i64 fr, .int .i64 to, .int .i64 br, .int .i64 bp, .int .i64 ix, .int .i64 cm, .int .i64 nc, .int .i64 ck, .int .i64 ct, .int .i64 sq, x11, x12, x13, x14, x15, x16, x17, .int .u8 ok, .string p0, .string p1, .string p2, .int .i64 re, .bool rf, .string rv, .slice rA rs.length rc, .slice yA l.length yc] =
      mgC ⟨k, fr, to, br, bp, ix, cm, nc, ck, ct, sq, e, ok, p0, p1, p2, re, rf, rv, rA, rs.length, rc, yA, l.length, yc⟩ := by
    show [.int .u8 k, .int .i64 fr, .int .i64 to, .int .i64 br, .int .i64 bp, .int .i64 ix, .int .i64 cm, .int .i64 nc, .int .i64 ck, .int .i64 ct, .int .i64 sq] ++ ([x11, x12, x13, x14, x15, x16, x17] ++ [.int .u8 ok, .string p0, .string p1, .string p2, .int .i64 re, .bool rf, .string rv, .slice rA rs.length rc, .slice yA l.length yc]) = _
    rw [he]
    rfl
  exact ⟨_, rs, l, hcs, ⟨g0, g1, g2, g3, g4, g5, g6, g7, g8, g9, g10, g11, g12, g13, g14, g15, g16, g17, g18, ⟨g19, g20⟩, g21⟩, ⟨rfl, q0, q1, q2, q3, rfl, q4, q5, q6⟩⟩
end
end Go.Proofs.YtiieakndjheknaaDoor

/-
  PLAIN: messages: which may be; which are the same. No program in sight.
-/
namespace Go.Proofs.YtiieakndjheknaaDoor
set_option maxRecDepth 100000
set_option linter.unusedVariables false
set_option linter.unusedSimpArgs false
def crowdB (n : Int) : Bool := (n == 3) || ((n == 5) || (n == 7))
def balM (r p n : Int) : Bool := crowdB n && (decide (1 ≤ r) && (decide (r ≤ 1099511627776) && (decide (0 ≤ p) && decide (p < n))))
def numB (n least : Int) : Bool := decide (least ≤ n) && decide (n ≤ 1099511627776)
def rpEq (x y : Rp) : Bool := (x.ix == y.ix) && ((x.st == y.st) && (((x.r == y.r) && (x.p == y.p)) && enEq x.e y.e))
theorem rpEq_iff {x y : Rp} : rpEq x y = true ↔ x = y := by
  obtain ⟨a, b, c, d, e⟩ := x
  obtain ⟨a', b', c', d', e'⟩ := y
  unfold rpEq
  simp only [Bool.and_eq_true, beq_iff_eq, enEq_iff, Rp.mk.injEq]
  constructor
  · rintro ⟨h1, h2, ⟨h3, h4⟩, h5⟩; exact ⟨h1, h2, h3, h4, h5⟩
  · rintro ⟨h1, h2, h3, h4, h5⟩; exact ⟨h1, h2, ⟨h3, h4⟩, h5⟩
def rpsEq : List Rp → List Rp → Bool
  | [], [] => true
  | x :: l, y :: m => rpEq x y && rpsEq l m
  | _, _ => false
theorem rpsEq_iff : ∀ {l m : List Rp}, rpsEq l m = true ↔ l = m
  | [], [] => by simp [rpsEq]
  | [], y :: m => by simp [rpsEq]
  | x :: l, [] => by simp [rpsEq]
  | x :: l, y :: m => by
    simp only [rpsEq, Bool.and_eq_true, rpEq_iff, rpsEq_iff, List.cons.injEq]
/-- the entry is none -/
def enZ (e : En) : Bool := enEq e en0
/-- may a report be, but for its place among the others? -/
def repB (x : Rp) (n : Int) : Bool :=
  numB x.ix 1 && (((x.st == 2) && (balM x.r x.p n && mayB x.e)) || (((x.st == 3) && (balM x.r x.p n && enZ x.e)) || ((x.st == 4) && (((x.r == 0) && (x.p == 0)) && enZ x.e))))
def repsOk (behind : Int) : List Rp → Int → Bool
  | [], n => true
  | x :: l, n => (repB x n && decide (behind < x.ix)) && repsOk x.ix l n
def repsB (rs : List Rp) (n : Int) : Bool := repsOk 0 rs n && decide (rs.length ≤ 24)
def repIx (n i : Int) : Bool := decide (0 ≤ i) && decide (i < n)
def cliIx (i : Int) : Bool := decide (i < 0) && decide (-4 ≤ i)
def endsB (m : Mg) (n : Int) : Bool :=
  if m.k = 1 then cliIx m.fr && repIx n m.to else if m.k = 2 then repIx n m.fr && cliIx m.to else repIx n m.fr && (repIx n m.to && (m.fr != m.to))
/-- a field of a letter -/
def keepM (c : Nat) (t m : Mg) : Mg :=
  if c = 115 then { t with sq := m.sq } else if c = 111 then { t with ok := m.ok, o0 := m.o0, o1 := m.o1, o2 := m.o2 } else if c = 114 then { t with re := m.re, rf := m.rf, rv := m.rv }
  else if c = 98 then { t with br := m.br, bp := m.bp } else if c = 105 then { t with ix := m.ix } else if c = 122 then { t with ix := m.ix } else if c = 99 then { t with cm := m.cm } else if c = 110 then { t with nc := m.nc }
  else if c = 101 then { t with e := m.e } else if c = 108 then { t with rA := m.rA, rn := m.rn, rc := m.rc } else if c = 107 then { t with ck := m.ck } else if c = 109 then { t with ct := m.ct }
  else { t with yA := m.yA, yn := m.yn, yc := m.yc }
def keepB (c : Nat) (m : Mg) (rs : List Rp) (n : Int) : Bool :=
  if c = 115 then numB m.sq 1 else if c = 111 then decide ((m.o0.size : Int) ≤ 16) && (decide ((m.o1.size : Int) ≤ 16) && decide ((m.o2.size : Int) ≤ 16)) else if c = 114 then decide (0 ≤ m.re) && (decide (m.re ≤ 999) && decide ((m.rv.size : Int) ≤ 16))
  else if c = 98 then balM m.br m.bp n else if c = 105 then numB m.ix 1 else if c = 122 then numB m.ix 0 else if c = 99 then numB m.cm 0 else if c = 110 then numB m.nc 0
  else if c = 101 then mayB m.e else if c = 108 then repsB rs n else if c = 107 then decide (0 ≤ m.ck) && decide (m.ck < 8) else if c = 109 then decide (m.ck < m.ct) && decide (m.ct ≤ 8)
  else decide (1 ≤ (m.yn : Int)) && decide ((m.yn : Int) ≤ 80)
/-- the letters of a kind -/
def fld : List (List UInt8) := [[], [115, 111], [115, 114], [98, 105], [98, 122, 99, 108], [98], [98, 105, 99, 101], [98, 105], [98, 99, 110], [98, 110], [105], [98, 105, 101], [122, 107], [122, 107, 109, 121], [105], [122, 107]]
def lets (k : Int) : List UInt8 := if 1 ≤ k ∧ k ≤ 15 then (fld[k.toNat]?).getD [] else []
def keepL (fs : List UInt8) (t m : Mg) : Mg := fs.foldl (fun t c => keepM c.toNat t m) t
def bare0 (m : Mg) : Mg := { mg0 with k := m.k, fr := m.fr, to := m.to }
def bareM (m : Mg) : Mg := keepL (lets m.k) (bare0 m) m
def bareR (m : Mg) (rs : List Rp) : List Rp := if m.k = 4 then rs else []
def bareY (m : Mg) (l : List UInt8) : List UInt8 := if m.k = 13 then l else []
def kindB (k : Int) : Bool := decide (1 ≤ k) && decide (k ≤ 15)
def balEq (r p r' p' : Int) : Bool := (r == r') && (p == p')
def repEq (a b : Mg) : Bool := (a.re == b.re) && ((a.rf == b.rf) && (a.rv.toList == b.rv.toList))
def sameM (a : Mg) (ra : List Rp) (la : List UInt8) (b : Mg) (rb : List Rp) (lb : List UInt8) : Bool :=
  (rpsEq ra rb && eqB la lb) && (((a.k == b.k) && ((a.fr == b.fr) && ((a.to == b.to) && (balEq a.br a.bp b.br b.bp && ((a.ix == b.ix) && ((a.cm == b.cm) && (a.nc == b.nc))))))) &&
    ((a.ck == b.ck) && ((a.ct == b.ct) && ((a.sq == b.sq) && (enEq a.e b.e && (opEq a.ok a.o0 a.o1 a.o2 b.ok b.o0 b.o1 b.o2 && repEq a b))))))
/-- a message but for where it lies -/
def nrm (m : Mg) : Mg := { m with rA := none, rn := 0, rc := 0, yA := none, yn := 0, yc := 0 }
theorem sameM_iff {a b : Mg} {ra rb : List Rp} {la lb : List UInt8} : sameM a ra la b rb lb = true ↔ nrm a = nrm b ∧ ra = rb ∧ la = lb := by
  obtain ⟨k, fr, to, br, bp, ix, cm, nc, ck, ct, sq, e, ok, o0, o1, o2, re, rf, rv, rA, rn, rc, yA, yn, yc⟩ := a
  obtain ⟨k', fr', to', br', bp', ix', cm', nc', ck', ct', sq', e', ok', o0', o1', o2', re', rf', rv', rA', rn', rc', yA', yn', yc'⟩ := b
  have hs : ∀ s t : ByteArray, (s.toList == t.toList) = true ↔ s = t := fun s t => by
    rw [beq_iff_eq]
    exact ⟨bytes_ext, fun h => by rw [h]⟩
  unfold sameM nrm balEq repEq
  simp only [Bool.and_eq_true, beq_iff_eq, rpsEq_iff, eqB, decide_eq_true_eq, enEq_iff, opEq_iff, hs, Mg.mk.injEq, and_true, true_and]
  constructor
  · rintro ⟨⟨h1, h2⟩, ⟨h3, h4, h5, ⟨h6, h7⟩, h8, h9, h10⟩, h11, h12, h13, h14, ⟨h15, h16, h17, h18⟩, h19, h20, h21⟩
    exact ⟨⟨h3, h4, h5, h6, h7, h8, h9, h10, h11, h12, h13, h14, h15, h16, h17, h18, h19, h20, h21⟩, h1, h2⟩
  · rintro ⟨⟨h3, h4, h5, h6, h7, h8, h9, h10, h11, h12, h13, h14, h15, h16, h17, h18, h19, h20, h21⟩, h1, h2⟩
    exact ⟨⟨h1, h2⟩, ⟨h3, h4, h5, ⟨h6, h7⟩, h8, h9, h10⟩, h11, h12, h13, h14, ⟨h15, h16, h17, h18⟩, h19, h20, h21⟩
def mayM (m : Mg) (rs : List Rp) (l : List UInt8) (n : Int) : Bool :=
  kindB m.k && (crowdB n && (endsB m n && ((lets m.k).all (fun c => keepB c.toNat m rs n) && sameM (bareM m) (bareR m rs) (bareY m l) m rs l)))
section
variable {w : World} {m : Mg} {rs : List Rp} {l : List UInt8}
theorem MgR.n1 (h : MgR w m rs l) : m.rn = rs.length := h.1
theorem MgR.rr (h : MgR w m rs l) : RRp w m.rA rs := h.2.1
theorem MgR.ok (h : MgR w m rs l) : ∀ x ∈ rs, RpOk x := h.2.2.1
theorem MgR.le (h : MgR w m rs l) : m.rn ≤ m.rc := h.2.2.2.1
theorem MgR.mx (h : MgR w m rs l) : m.rc ≤ maxLen := h.2.2.2.2.1
theorem MgR.n2 (h : MgR w m rs l) : m.yn = l.length := h.2.2.2.2.2.1
theorem MgR.yr (h : MgR w m rs l) : Rd w m.yA l := h.2.2.2.2.2.2.1
theorem MgR.yl (h : MgR w m rs l) : m.yn ≤ m.yc := h.2.2.2.2.2.2.2.1
theorem MgR.ym (h : MgR w m rs l) : m.yc ≤ maxLen := h.2.2.2.2.2.2.2.2
end
theorem kinds {k : Int} (h : kindB k = true) : k = 1 ∨ k = 2 ∨ k = 3 ∨ k = 4 ∨ k = 5 ∨ k = 6 ∨ k = 7 ∨ k = 8 ∨ k = 9 ∨ k = 10 ∨ k = 11 ∨ k = 12 ∨ k = 13 ∨ k = 14 ∨ k = 15 := by
  simp only [kindB, Bool.and_eq_true, decide_eq_true_eq] at h
  omega
theorem bare_r {w : World} {m : Mg} {rs : List Rp} {l : List UInt8} (h : MgR w m rs l) : MgR w (bareM m) (bareR m rs) (bareY m l) := by
  have h0 : MgR w (bare0 m) [] [] := ⟨rfl, fun h => absurd rfl h, by simp, Nat.le_refl _, Nat.zero_le _, rfl, Rd.nil _ _, Nat.le_refl _, Nat.zero_le _⟩
  cases hk : kindB m.k
  · have e : lets m.k = [] := by
      unfold lets
      rw [if_neg]
      intro hh
      simp only [kindB, Bool.and_eq_false_iff, decide_eq_false_iff_not] at hk
      omega
    have e4 : ¬ m.k = 4 := by intro hh; rw [hh] at hk; cases hk
    have e13 : ¬ m.k = 13 := by intro hh; rw [hh] at hk; cases hk
    unfold bareM bareR bareY
    rw [e, if_neg e4, if_neg e13]
    exact h0
  · obtain ⟨k, fr, to, br, bp, ix, cm, nc, ck, ct, sq, e, ok, o0, o1, o2, re, rf, rv, rA, rn, rc, yA, yn, yc⟩ := m
    have h13 := h
    obtain ⟨g1, g2, g3, g4, g5, g6, g7, g8, g9⟩ := h
    rcases kinds hk with hk | hk | hk | hk | hk | hk | hk | hk | hk | hk | hk | hk | hk | hk | hk
    all_goals
      simp only at hk
      subst hk
      first
      | exact h0
      | exact ⟨g1, g2, g3, g4, g5, rfl, Rd.nil _ _, Nat.le_refl _, Nat.zero_le _⟩
      | exact ⟨rfl, fun h => absurd rfl h, by simp [bareR], Nat.le_refl _, Nat.zero_le _, g6, g7, g8, g9⟩
theorem lets_all (k : Int) : ∀ c ∈ lets k, c.toNat < 128 ∧ c.toNat ∈ [115, 111, 114, 98, 105, 122, 99, 110, 101, 108, 107, 109, 121] := by
  intro c hc
  unfold lets at hc
  split at hc
  · rename_i h
    have : ∀ i : Fin 16, ∀ c ∈ (fld[i.val]?).getD [], c.toNat < 128 ∧ c.toNat ∈ [115, 111, 114, 98, 105, 122, 99, 110, 101, 108, 107, 109, 121] := by decide +kernel
    exact this ⟨k.toNat, by omega⟩ c hc
  · simp at hc
end Go.Proofs.YtiieakndjheknaaDoor

/-
  '==' AND '!=' OF STRUCTS, the answer by a letter: ballots, entries, operations, replies, reports; in a plain region and in one that draws its order.
-/
namespace Go.Proofs.YtiieakndjheknaaDoor
set_option maxRecDepth 100000
open Go.RowKit
set_option linter.unusedVariables false
set_option linter.unusedSimpArgs false
theorem ch2 (a b : Bool) : (a = false) ∨ (a = true ∧ b = false) ∨ (a = true ∧ b = true) := by
  cases a
  · exact .inl rfl
  · cases b
    · exact .inr (.inl ⟨rfl, rfl⟩)
    · exact .inr (.inr ⟨rfl, rfl⟩)
theorem ch3 (a b c : Bool) : (a = false) ∨ (a = true ∧ b = false) ∨ (a = true ∧ b = true ∧ c = false) ∨ (a = true ∧ b = true ∧ c = true) := by
  cases a
  · exact .inl rfl
  · rcases ch2 b c with h | h | h
    · exact .inr (.inl ⟨rfl, h⟩)
    · exact .inr (.inr (.inl ⟨rfl, h⟩))
    · exact .inr (.inr (.inr ⟨rfl, h⟩))
theorem ch4 (a b c d : Bool) : (a = false) ∨ (a = true ∧ b = false) ∨ (a = true ∧ b = true ∧ c = false) ∨ (a = true ∧ b = true ∧ c = true ∧ d = false) ∨ (a = true ∧ b = true ∧ c = true ∧ d = true) := by
  cases a
  · exact .inl rfl
  · rcases ch3 b c d with h | h | h | h
    · exact .inr (.inl ⟨rfl, h⟩)
    · exact .inr (.inr (.inl ⟨rfl, h⟩))
    · exact .inr (.inr (.inr (.inl ⟨rfl, h⟩)))
    · exact .inr (.inr (.inr (.inr ⟨rfl, h⟩)))
theorem ch5 (a b c d e : Bool) : (a = false) ∨ (a = true ∧ b = false) ∨ (a = true ∧ b = true ∧ c = false) ∨ (a = true ∧ b = true ∧ c = true ∧ d = false) ∨ (a = true ∧ b = true ∧ c = true ∧ d = true ∧ e = false) ∨ (a = true ∧ b = true ∧ c = true ∧ d = true ∧ e = true) := by
  cases a
  · exact .inl rfl
  · rcases ch4 b c d e with h | h | h | h | h
    · exact .inr (.inl ⟨rfl, h⟩)
    · exact .inr (.inr (.inl ⟨rfl, h⟩))
    · exact .inr (.inr (.inr (.inl ⟨rfl, h⟩)))
    · exact .inr (.inr (.inr (.inr (.inl ⟨rfl, h⟩))))
    · exact .inr (.inr (.inr (.inr (.inr ⟨rfl, h⟩))))
theorem ch6 (a b c d e f : Bool) : (a = false) ∨ (a = true ∧ b = false) ∨ (a = true ∧ b = true ∧ c = false) ∨ (a = true ∧ b = true ∧ c = true ∧ d = false) ∨ (a = true ∧ b = true ∧ c = true ∧ d = true ∧ e = false) ∨ (a = true ∧ b = true ∧ c = true ∧ d = true ∧ e = true ∧ f = false) ∨ (a = true ∧ b = true ∧ c = true ∧ d = true ∧ e = true ∧ f = true) := by
  cases a
  · exact .inl rfl
  · rcases ch5 b c d e f with h | h | h | h | h | h
    · exact .inr (.inl ⟨rfl, h⟩)
    · exact .inr (.inr (.inl ⟨rfl, h⟩))
    · exact .inr (.inr (.inr (.inl ⟨rfl, h⟩)))
    · exact .inr (.inr (.inr (.inr (.inl ⟨rfl, h⟩))))
    · exact .inr (.inr (.inr (.inr (.inr (.inl ⟨rfl, h⟩)))))
    · exact .inr (.inr (.inr (.inr (.inr (.inr ⟨rfl, h⟩)))))
theorem ch7 (a b c d e f g : Bool) : (a = false) ∨ (a = true ∧ b = false) ∨ (a = true ∧ b = true ∧ c = false) ∨ (a = true ∧ b = true ∧ c = true ∧ d = false) ∨ (a = true ∧ b = true ∧ c = true ∧ d = true ∧ e = false) ∨ (a = true ∧ b = true ∧ c = true ∧ d = true ∧ e = true ∧ f = false) ∨ (a = true ∧ b = true ∧ c = true ∧ d = true ∧ e = true ∧ f = true ∧ g = false) ∨ (a = true ∧ b = true ∧ c = true ∧ d = true ∧ e = true ∧ f = true ∧ g = true) := by
  cases a
  · exact .inl rfl
  · rcases ch6 b c d e f g with h | h | h | h | h | h | h
    · exact .inr (.inl ⟨rfl, h⟩)
    · exact .inr (.inr (.inl ⟨rfl, h⟩))
    · exact .inr (.inr (.inr (.inl ⟨rfl, h⟩)))
    · exact .inr (.inr (.inr (.inr (.inl ⟨rfl, h⟩))))
    · exact .inr (.inr (.inr (.inr (.inr (.inl ⟨rfl, h⟩)))))
    · exact .inr (.inr (.inr (.inr (.inr (.inr (.inl ⟨rfl, h⟩))))))
    · exact .inr (.inr (.inr (.inr (.inr (.inr (.inr ⟨rfl, h⟩))))))
def baC (r p : Int) : List Value := [.int .i64 r, .int .i64 p]
def reC (k : Int) (b : Bool) (s : ByteArray) : List Value := [.int .i64 k, .bool b, .string s]
set_option maxHeartbeats 400000 in
theorem eq_rp (x y : Rp) (d : Nat) (w : World) : (Op.equalIn (d + 1 + 1 + 1 + 1) 71 (.agg (rpC x).toArray) (.agg (rpC y).toArray)).run Tryd.prog w = .ok (rpEq x y) w := by
  have u3 := Tryd.underlying5
  have u4 := Tryd.underlying3
  have hS : Tryd.prog.underlying 71 = some (.struct (Tryd.prog.fieldsOf 71)) := by kernel_rfl
  have ho := eq_en x.e y.e d
  have hb := eq_ba x.r x.p y.r y.p (d + 1)
  simp only [enC] at ho
  rw [run_equalIn_agg w _ 71 _ _ hS (by kernel_rfl)]
  simp only [Program.fieldsOf, Tryd.underlying71, rpC]
  go_simp
  unfold rpEq
  cases h1 : (x.ix == y.ix) <;> cases h2 : (x.st == y.st) <;> cases h3 : (x.r == y.r) <;> cases h4 : (x.p == y.p) <;> cases h5 : enEq x.e y.e <;> simp_all
section
variable {a : Act} {w : World} {x y : Operand} {o : Oper} {t2 : TypeId}
theorem exB_eqBa (r p r' p' : Int) (ho : o.op = .binOp .eql 23 x y t2) (hx : a.eval x = .agg (baC r p).toArray) (hy : a.eval y = .agg (baC r' p').toArray) : (execOp a.eval o).run Tryd.prog w = .ok (.value (.bool (balEq r p r' p'))) w := by
  simp only [execOp, ho, hx, hy, baC]
  have hm : Tryd.prog.eqGuardType Tryd.prog.depth 23 = false := by kernel_rfl
  simp [run_eqGuard_agg w _ _ _ _ _ _ hm, run_eql_struct, eq_ba r p r' p' 9998 w, balEq]
theorem exB_neBa (r p r' p' : Int) (ho : o.op = .binOp .neq 23 x y t2) (hx : a.eval x = .agg (baC r p).toArray) (hy : a.eval y = .agg (baC r' p').toArray) : (execOp a.eval o).run Tryd.prog w = .ok (.value (.bool (!(balEq r p r' p')))) w := by
  simp only [execOp, ho, hx, hy, baC]
  have hm : Tryd.prog.eqGuardType Tryd.prog.depth 23 = false := by kernel_rfl
  simp [run_eqGuard_agg w _ _ _ _ _ _ hm, run_neq_struct, eq_ba r p r' p' 9998 w, balEq]
theorem exB_eqEn (u v : En) (ho : o.op = .binOp .eql 27 x y t2) (hx : a.eval x = .agg (enC u).toArray) (hy : a.eval y = .agg (enC v).toArray) : (execOp a.eval o).run Tryd.prog w = .ok (.value (.bool (enEq u v))) w := by
  simp only [execOp, ho, hx, hy]
  have hm : Tryd.prog.eqGuardType Tryd.prog.depth 27 = false := by kernel_rfl
  simp [run_eqGuard_agg w _ _ _ _ _ _ hm, run_eql_struct, eq_en u v 9997 w]
theorem exB_neEn (u v : En) (ho : o.op = .binOp .neq 27 x y t2) (hx : a.eval x = .agg (enC u).toArray) (hy : a.eval y = .agg (enC v).toArray) : (execOp a.eval o).run Tryd.prog w = .ok (.value (.bool (!(enEq u v)))) w := by
  simp only [execOp, ho, hx, hy]
  have hm : Tryd.prog.eqGuardType Tryd.prog.depth 27 = false := by kernel_rfl
  simp [run_eqGuard_agg w _ _ _ _ _ _ hm, run_neq_struct, eq_en u v 9997 w]
theorem exB_eqOp (k : Int) (s0 s1 s2 : ByteArray) (k' : Int) (s0' s1' s2' : ByteArray) (ho : o.op = .binOp .eql 25 x y t2) (hx : a.eval x = .agg (opC k s0 s1 s2).toArray) (hy : a.eval y = .agg (opC k' s0' s1' s2').toArray) : (execOp a.eval o).run Tryd.prog w = .ok (.value (.bool (opEq k s0 s1 s2 k' s0' s1' s2'))) w := by
  simp only [execOp, ho, hx, hy]
  have hm : Tryd.prog.eqGuardType Tryd.prog.depth 25 = false := by kernel_rfl
  simp [run_eqGuard_agg w _ _ _ _ _ _ hm, run_eql_struct, eq_op k s0 s1 s2 k' s0' s1' s2' 9998 w]
theorem exB_neOp (k : Int) (s0 s1 s2 : ByteArray) (k' : Int) (s0' s1' s2' : ByteArray) (ho : o.op = .binOp .neq 25 x y t2) (hx : a.eval x = .agg (opC k s0 s1 s2).toArray) (hy : a.eval y = .agg (opC k' s0' s1' s2').toArray) : (execOp a.eval o).run Tryd.prog w = .ok (.value (.bool (!(opEq k s0 s1 s2 k' s0' s1' s2')))) w := by
  simp only [execOp, ho, hx, hy]
  have hm : Tryd.prog.eqGuardType Tryd.prog.depth 25 = false := by kernel_rfl
  simp [run_eqGuard_agg w _ _ _ _ _ _ hm, run_neq_struct, eq_op k s0 s1 s2 k' s0' s1' s2' 9998 w]
theorem exB_eqRe (k : Int) (b : Bool) (s : ByteArray) (k' : Int) (b' : Bool) (s' : ByteArray) (ho : o.op = .binOp .eql 30 x y t2) (hx : a.eval x = .agg (reC k b s).toArray) (hy : a.eval y = .agg (reC k' b' s').toArray) : (execOp a.eval o).run Tryd.prog w = .ok (.value (.bool (((k == k') && ((b == b') && (s.toList == s'.toList)))))) w := by
  simp only [execOp, ho, hx, hy, reC]
  have hm : Tryd.prog.eqGuardType Tryd.prog.depth 30 = false := by kernel_rfl
  simp [run_eqGuard_agg w _ _ _ _ _ _ hm, run_eql_struct, eq_re k b s k' b' s' 9998 w]
theorem exB_neRe (k : Int) (b : Bool) (s : ByteArray) (k' : Int) (b' : Bool) (s' : ByteArray) (ho : o.op = .binOp .neq 30 x y t2) (hx : a.eval x = .agg (reC k b s).toArray) (hy : a.eval y = .agg (reC k' b' s').toArray) : (execOp a.eval o).run Tryd.prog w = .ok (.value (.bool (!((k == k') && ((b == b') && (s.toList == s'.toList)))))) w := by
  simp only [execOp, ho, hx, hy, reC]
  have hm : Tryd.prog.eqGuardType Tryd.prog.depth 30 = false := by kernel_rfl
  simp [run_eqGuard_agg w _ _ _ _ _ _ hm, run_neq_struct, eq_re k b s k' b' s' 9998 w]
theorem exB_neRp (u v : Rp) (ho : o.op = .binOp .neq 71 x y t2) (hx : a.eval x = .agg (rpC u).toArray) (hy : a.eval y = .agg (rpC v).toArray) : (execOp a.eval o).run Tryd.prog w = .ok (.value (.bool (!(rpEq u v)))) w := by
  simp only [execOp, ho, hx, hy]
  have hm : Tryd.prog.eqGuardType Tryd.prog.depth 71 = false := by kernel_rfl
  simp [run_eqGuard_agg w _ _ _ _ _ _ hm, run_neq_struct, eq_rp u v 9996 w]
end
section
variable {a : Act} {w0 w : World} {Q : Exit → Act → World → Prop} {L : List Item} {ops : Array Oper} {rest : List Oper} {d : Option Tmp} {tt t2 : TypeId} {x y : Operand} {ps : String} {af : Array Edge} {gd : Option (Nat × Bool)}
theorem wB_eqBa (h : Region.wanted { dst := d, op := .binOp .eql 23 x y t2, type := tt, pos := ps, after := af, guard := gd } (yielded ops a.tmps) = true ∧ ∃ r p r' p', a.eval x = .agg (baC r p).toArray ∧ a.eval y = .agg (baC r' p').toArray ∧ ∃ bb : Bool, (balEq r p r' p') = bb ∧ wpList Tryd.prog ops Q rest (a.put d (.bool bb)) w) :
    wpList Tryd.prog ops Q ({ dst := d, op := .binOp .eql 23 x y t2, type := tt, pos := ps, after := af, guard := gd } :: rest) a w := by
  obtain ⟨h1, r, p, r', p', hx, hy, bb, rfl, h2⟩ := h
  exact wl_val _ h1 (exB_eqBa r p r' p' rfl hx hy) h2
theorem qB_eqBa {C : World → Prop} {Q : Act → Prop} (h : Region.wanted { dst := d, op := .binOp .eql 23 x y t2, type := tt, pos := ps, after := af, guard := gd } (yielded ops a.tmps) = true ∧ ∃ r p r' p', a.eval x = .agg (baC r p).toArray ∧ a.eval y = .agg (baC r' p').toArray ∧ ∃ bb : Bool, (balEq r p r' p') = bb ∧ wpQuiet Tryd.prog ops C Q rest (a.put d (.bool bb))) :
    wpQuiet Tryd.prog ops C Q ({ dst := d, op := .binOp .eql 23 x y t2, type := tt, pos := ps, after := af, guard := gd } :: rest) a := by
  obtain ⟨h1, r, p, r', p', hx, hy, bb, rfl, h2⟩ := h
  refine BigFrame.wpQuiet_want h1 fun K hK => quiet_of_run _ ?_ (hK _ h2)
  intro w hw
  exact exB_eqBa r p r' p' rfl hx hy
theorem wB_neBa (h : Region.wanted { dst := d, op := .binOp .neq 23 x y t2, type := tt, pos := ps, after := af, guard := gd } (yielded ops a.tmps) = true ∧ ∃ r p r' p', a.eval x = .agg (baC r p).toArray ∧ a.eval y = .agg (baC r' p').toArray ∧ ∃ bb : Bool, (!(balEq r p r' p')) = bb ∧ wpList Tryd.prog ops Q rest (a.put d (.bool bb)) w) :
    wpList Tryd.prog ops Q ({ dst := d, op := .binOp .neq 23 x y t2, type := tt, pos := ps, after := af, guard := gd } :: rest) a w := by
  obtain ⟨h1, r, p, r', p', hx, hy, bb, rfl, h2⟩ := h
  exact wl_val _ h1 (exB_neBa r p r' p' rfl hx hy) h2
theorem wB_eqEn (h : Region.wanted { dst := d, op := .binOp .eql 27 x y t2, type := tt, pos := ps, after := af, guard := gd } (yielded ops a.tmps) = true ∧ ∃ u v, a.eval x = .agg (enC u).toArray ∧ a.eval y = .agg (enC v).toArray ∧ ∃ bb : Bool, (enEq u v) = bb ∧ wpList Tryd.prog ops Q rest (a.put d (.bool bb)) w) :
    wpList Tryd.prog ops Q ({ dst := d, op := .binOp .eql 27 x y t2, type := tt, pos := ps, after := af, guard := gd } :: rest) a w := by
  obtain ⟨h1, u, v, hx, hy, bb, rfl, h2⟩ := h
  exact wl_val _ h1 (exB_eqEn u v rfl hx hy) h2
theorem qB_eqEn {C : World → Prop} {Q : Act → Prop} (h : Region.wanted { dst := d, op := .binOp .eql 27 x y t2, type := tt, pos := ps, after := af, guard := gd } (yielded ops a.tmps) = true ∧ ∃ u v, a.eval x = .agg (enC u).toArray ∧ a.eval y = .agg (enC v).toArray ∧ ∃ bb : Bool, (enEq u v) = bb ∧ wpQuiet Tryd.prog ops C Q rest (a.put d (.bool bb))) :
    wpQuiet Tryd.prog ops C Q ({ dst := d, op := .binOp .eql 27 x y t2, type := tt, pos := ps, after := af, guard := gd } :: rest) a := by
  obtain ⟨h1, u, v, hx, hy, bb, rfl, h2⟩ := h
  refine BigFrame.wpQuiet_want h1 fun K hK => quiet_of_run _ ?_ (hK _ h2)
  intro w hw
  exact exB_eqEn u v rfl hx hy
theorem wB_neEn (h : Region.wanted { dst := d, op := .binOp .neq 27 x y t2, type := tt, pos := ps, after := af, guard := gd } (yielded ops a.tmps) = true ∧ ∃ u v, a.eval x = .agg (enC u).toArray ∧ a.eval y = .agg (enC v).toArray ∧ ∃ bb : Bool, (!(enEq u v)) = bb ∧ wpList Tryd.prog ops Q rest (a.put d (.bool bb)) w) :
    wpList Tryd.prog ops Q ({ dst := d, op := .binOp .neq 27 x y t2, type := tt, pos := ps, after := af, guard := gd } :: rest) a w := by
  obtain ⟨h1, u, v, hx, hy, bb, rfl, h2⟩ := h
  exact wl_val _ h1 (exB_neEn u v rfl hx hy) h2
theorem wB_eqOp (h : Region.wanted { dst := d, op := .binOp .eql 25 x y t2, type := tt, pos := ps, after := af, guard := gd } (yielded ops a.tmps) = true ∧ ∃ k s0 s1 s2 k' s0' s1' s2', a.eval x = .agg (opC k s0 s1 s2).toArray ∧ a.eval y = .agg (opC k' s0' s1' s2').toArray ∧ ∃ bb : Bool, (opEq k s0 s1 s2 k' s0' s1' s2') = bb ∧ wpList Tryd.prog ops Q rest (a.put d (.bool bb)) w) :
    wpList Tryd.prog ops Q ({ dst := d, op := .binOp .eql 25 x y t2, type := tt, pos := ps, after := af, guard := gd } :: rest) a w := by
  obtain ⟨h1, k, s0, s1, s2, k', s0', s1', s2', hx, hy, bb, rfl, h2⟩ := h
  exact wl_val _ h1 (exB_eqOp k s0 s1 s2 k' s0' s1' s2' rfl hx hy) h2
theorem wB_neOp (h : Region.wanted { dst := d, op := .binOp .neq 25 x y t2, type := tt, pos := ps, after := af, guard := gd } (yielded ops a.tmps) = true ∧ ∃ k s0 s1 s2 k' s0' s1' s2', a.eval x = .agg (opC k s0 s1 s2).toArray ∧ a.eval y = .agg (opC k' s0' s1' s2').toArray ∧ ∃ bb : Bool, (!(opEq k s0 s1 s2 k' s0' s1' s2')) = bb ∧ wpList Tryd.prog ops Q rest (a.put d (.bool bb)) w) :
    wpList Tryd.prog ops Q ({ dst := d, op := .binOp .neq 25 x y t2, type := tt, pos := ps, after := af, guard := gd } :: rest) a w := by
  obtain ⟨h1, k, s0, s1, s2, k', s0', s1', s2', hx, hy, bb, rfl, h2⟩ := h
  exact wl_val _ h1 (exB_neOp k s0 s1 s2 k' s0' s1' s2' rfl hx hy) h2
theorem wB_eqRe (h : Region.wanted { dst := d, op := .binOp .eql 30 x y t2, type := tt, pos := ps, after := af, guard := gd } (yielded ops a.tmps) = true ∧ ∃ k b s k' b' s', a.eval x = .agg (reC k b s).toArray ∧ a.eval y = .agg (reC k' b' s').toArray ∧ ∃ bb : Bool, (((k == k') && ((b == b') && (s.toList == s'.toList)))) = bb ∧ wpList Tryd.prog ops Q rest (a.put d (.bool bb)) w) :
    wpList Tryd.prog ops Q ({ dst := d, op := .binOp .eql 30 x y t2, type := tt, pos := ps, after := af, guard := gd } :: rest) a w := by
  obtain ⟨h1, k, b, s, k', b', s', hx, hy, bb, rfl, h2⟩ := h
  exact wl_val _ h1 (exB_eqRe k b s k' b' s' rfl hx hy) h2
theorem wB_neRe (h : Region.wanted { dst := d, op := .binOp .neq 30 x y t2, type := tt, pos := ps, after := af, guard := gd } (yielded ops a.tmps) = true ∧ ∃ k b s k' b' s', a.eval x = .agg (reC k b s).toArray ∧ a.eval y = .agg (reC k' b' s').toArray ∧ ∃ bb : Bool, (!((k == k') && ((b == b') && (s.toList == s'.toList)))) = bb ∧ wpList Tryd.prog ops Q rest (a.put d (.bool bb)) w) :
    wpList Tryd.prog ops Q ({ dst := d, op := .binOp .neq 30 x y t2, type := tt, pos := ps, after := af, guard := gd } :: rest) a w := by
  obtain ⟨h1, k, b, s, k', b', s', hx, hy, bb, rfl, h2⟩ := h
  exact wl_val _ h1 (exB_neRe k b s k' b' s' rfl hx hy) h2
theorem qB_neRp {C : World → Prop} {Q : Act → Prop} (h : Region.wanted { dst := d, op := .binOp .neq 71 x y t2, type := tt, pos := ps, after := af, guard := gd } (yielded ops a.tmps) = true ∧ ∃ u v, a.eval x = .agg (rpC u).toArray ∧ a.eval y = .agg (rpC v).toArray ∧ ∃ bb : Bool, (!(rpEq u v)) = bb ∧ wpQuiet Tryd.prog ops C Q rest (a.put d (.bool bb))) :
    wpQuiet Tryd.prog ops C Q ({ dst := d, op := .binOp .neq 71 x y t2, type := tt, pos := ps, after := af, guard := gd } :: rest) a := by
  obtain ⟨h1, u, v, hx, hy, bb, rfl, h2⟩ := h
  refine BigFrame.wpQuiet_want h1 fun K hK => quiet_of_run _ ?_ (hK _ h2)
  intro w hw
  exact exB_neRp u v rfl hx hy
end
end Go.Proofs.YtiieakndjheknaaDoor

/-
  ROWS OF STRUCTS OF THE CALL's OWN: one is built, one is appended, one is read.
-/
namespace Go.Proofs.YtiieakndjheknaaDoor
set_option maxRecDepth 100000
open Go.RowKit
set_option linter.unusedVariables false
theorem fold_set : ∀ (vs : List Value) (k : Nat) (cells : List Value), k + vs.length ≤ cells.length → (vs.zipIdx k).foldl (fun (cs : Array Value) (x : Value × Nat) => cs.setIfInBounds (0 + x.2) x.1) cells.toArray = (cells.take k ++ vs ++ cells.drop (k + vs.length)).toArray
  | [], k, cells, _ => by simp
  | v :: vs, k, cells, h => by
    simp only [List.length_cons] at h
    have ih := fold_set vs (k + 1) (cells.set k v) (by rw [List.length_set]; omega)
    rw [List.zipIdx_cons, List.foldl_cons]
    simp only [Nat.zero_add, List.setIfInBounds_toArray] at ih ⊢
    rw [ih]
    congr 1
    rw [List.drop_set, if_pos (by omega), List.take_set, List.length_cons]
    have h2 : (cells.take (k + 1)).set k v = cells.take k ++ [v] := by
      rw [List.take_succ_eq_append_getElem (by omega), List.set_append_right _ _ (by simp; omega)]
      simp [Nat.min_eq_left (show k ≤ cells.length by omega)]
    rw [h2, show k + 1 + vs.length = k + (vs.length + 1) by omega]
    simp
theorem fill_one (vs cells : List Value) (n : Nat) (hl : vs.length = n) (hc : cells.length = n) : Instr.fill (fun i => some (i * n, n)) cells.toArray [(0, .agg vs.toArray)] = some vs.toArray := by
  have h := fold_set vs 0 cells (by omega)
  rw [List.take_zero, List.nil_append, Nat.zero_add, hl, ← hc, List.drop_length, List.append_nil] at h
  unfold Instr.fill
  simp only [Nat.zero_mul, Value.cells, List.size_toArray, hl, hc, Nat.zero_add]
  simp only [ne_eq, not_true_eq_false, decide_false, Bool.false_or, Nat.lt_irrefl, gt_iff_lt, if_false, Bool.false_eq_true]
  unfold Instr.fill
  simp only [Nat.zero_add] at h
  rw [← Array.foldl_toList, Array.toList_zipIdx, List.toList_toArray, h]
theorem run_bsl1 {P : Program} {t e : TypeId} {i : TypeInfo} {z : Value} {n : Nat} (w : World) (ht : P.underlying t = some (.slice e)) (hi : P.info? e = some i) (hz : i.zero = some z) (hs : i.size = n) (hn : n ≤ 1000) (hn0 : 0 < n) (vs : List Value) (hl : vs.length = n) :
    (Instr.buildSlice t 1 #[(0, .agg vs.toArray)]).run P w = .ok (.slice (some ⟨w.heap.size, 0, none⟩) 1 1) (w.alloc (.cells vs.toArray e)) := by
  have h1 : ¬ (16777216 < n) := by omega
  have h0 : ¬ (n = 0) := by omega
  have hf := fill_one vs ((Array.range n).map (fun k => z.cells[k % z.cells.size]!)).toList n hl (by simp)
  rw [Array.toArray_toList] at hf
  unfold Instr.buildSlice
  simp [run_underlying ht, sizeOf, typeInfo, hi, hs, zeroValue, hz, h1, h0, newRow, hf]
section
variable {P : Program} {a : Act} {w0 w : World} {Q : Exit → Act → World → Prop} {L : List Item} {ops : Array Oper} {rest : List Oper} {d : Option Tmp} {tt t e : TypeId} {ps : String} {af : Array Edge} {gd : Option (Nat × Bool)} {x y : Operand}
theorem ex_bsl1 {oi : Oper} {n : Nat} (ho : oi.op = .buildSlice t 1 #[(0, x)]) (ht : P.underlying t = some (.slice e)) (hi : (P.info? e).map (fun i => (i.zero.isSome, i.size)) = some (true, n)) (hn : n ≤ 1000) (hn0 : 0 < n) {vs : List Value} (hx : a.eval x = .agg vs.toArray) (hl : vs.length = n) :
    (execOp a.eval oi).run P w = .ok (.value (.slice (some ⟨w.heap.size, 0, none⟩) 1 1)) (w.alloc (.cells vs.toArray e)) := by
  cases hq : P.info? e with
  | none => rw [hq] at hi; cases hi
  | some i =>
    rw [hq] at hi
    simp only [Option.map_some, Option.some.injEq, Prod.mk.injEq] at hi
    obtain ⟨z, hz⟩ := Option.isSome_iff_exists.1 hi.1
    have := run_bsl1 (P := P) w ht hq hz hi.2 hn hn0 vs hl
    simp [execOp, ho, hx, this]
/-- a slice of one struct -/
theorem Hp.bsl1 (H : Hp w0 w L) {n : Nat} (ht : P.underlying t = some (.slice e)) (hi : (P.info? e).map (fun i => (i.zero.isSome, i.size)) = some (true, n)) (hn : Nat.ble n 1000 = true) (hn0 : Nat.ble 1 n = true)
    (h : Region.wanted { dst := d, op := .buildSlice t 1 #[(0, x)], type := tt, pos := ps, after := af, guard := gd } (yielded ops a.tmps) = true ∧ ∃ vs : List Value, a.eval x = .agg vs.toArray ∧ vs.length = n ∧
    ∀ g w', Hp w0 w' (.blk g e vs :: L) → wpList P ops Q rest (a.put d (.slice (some ⟨g, 0, none⟩) 1 1)) w') :
    wpList P ops Q ({ dst := d, op := .buildSlice t 1 #[(0, x)], type := tt, pos := ps, after := af, guard := gd } :: rest) a w := by
  obtain ⟨h1, vs, hx, hl, hk⟩ := h
  have he := ex_bsl1 (P := P) (a := a) (w := w) (oi := { dst := d, op := .buildSlice t 1 #[(0, x)], type := tt, pos := ps, after := af, guard := gd }) rfl ht hi (Nat.le_of_ble_eq_true hn) (Nat.le_of_ble_eq_true hn0) hx hl
  refine BigFrame.wpList_want h1 fun K hK => ?_
  unfold Oper.wp
  rw [he]
  exact hK _ _ (hk _ _ (H.alloc _ _))
end
/-- rows one behind the other -/
def rowsC {α : Type} (f : α → List Value) (l : List α) : List Value := (l.map f).flatten
theorem rowsC_len {α : Type} {f : α → List Value} {n : Nat} (hf : ∀ x, (f x).length = n) : ∀ l : List α, (rowsC f l).length = l.length * n
  | [] => by simp [rowsC]
  | x :: l => by
    have := rowsC_len hf l
    unfold rowsC at this ⊢
    rw [List.map_cons, List.flatten_cons, List.length_append, hf, this, List.length_cons, Nat.add_mul]
    omega
theorem rowsC_get {α : Type} {f : α → List Value} {n : Nat} (hf : ∀ x, (f x).length = n) : ∀ (l : List α) (i j : Nat) (hi : i < l.length), j < n → (rowsC f l)[i * n + j]? = (f l[i])[j]?
  | [], i, j, hi, _ => by simp at hi
  | x :: l, i, j, hi, hj => by
    unfold rowsC
    rw [List.map_cons, List.flatten_cons]
    cases i with
    | zero =>
      rw [List.getElem?_append_left (by rw [hf]; omega)]
      simp
    | succ i =>
      rw [List.getElem?_append_right (by rw [hf, Nat.add_mul]; omega), hf, show (i + 1) * n + j - n = i * n + j by rw [Nat.add_mul]; omega]
      exact rowsC_get hf l i j (by simpa using hi) hj
theorem rowsC_snoc {α : Type} {f : α → List Value} (l : List α) (x : α) : rowsC f (l ++ [x]) = rowsC f l ++ f x := by simp [rowsC]
/-- a slice that reads as these rows of n cells -/
def RdR {α : Type} (f : α → List Value) (n : Nat) (w : World) (A : Option Addr) (l : List α) : Prop := l ≠ [] → ∃ b o, A = some ⟨b, o, none⟩ ∧ ∀ (i : Nat) (h : i < l.length), w.rangeAt b (o + i * n) (f l[i])
theorem RdR.nil {α : Type} (f : α → List Value) (n : Nat) (w : World) (A : Option Addr) : RdR f n w A [] := fun h => absurd rfl h
theorem RdR.at_ {α : Type} {f : α → List Value} {n : Nat} {w : World} {A : Option Addr} {l : List α} (h : RdR f n w A l) {i : Nat} (hi : i < l.length) : ∃ b o, A = some ⟨b, o, none⟩ ∧ ∀ (i : Nat) (h : i < l.length), w.rangeAt b (o + i * n) (f l[i]) := h (fun e => by subst e; simp at hi)
theorem RdR.below {α : Type} {f : α → List Value} {n : Nat} {w w' : World} {A : Option Addr} {l : List α} (h : RdR f n w A l) (hb : Below w.heap.size w w') : RdR f n w' A l := by
  intro hn
  obtain ⟨b, o, e, hc⟩ := h hn
  exact ⟨b, o, e, fun i hi j v hj => (hb.cell (World.block_lt_of_cell? w _ (hc i hi j v hj))).trans (hc i hi j v hj)⟩
theorem World.ownsRow.rdR {α : Type} {f : α → List Value} {n : Nat} (hf : ∀ x, (f x).length = n) {w : World} {base : Nat} {e : TypeId} {A : Option Addr} {c : Nat} {l : List α} (h : w.ownsRow base e n (.slice A l.length c) l.length (rowsC f l)) : RdR f n w A l := by
  intro hn
  have hpos : 0 < l.length := List.length_pos_iff.2 hn
  obtain ⟨g, cap, hv, _, _⟩ := World.ownsRow.form h hpos
  injection hv with hA
  subst hA
  refine ⟨g, 0, rfl, fun i hi j v hj => ?_⟩
  have hjn : j < n := by have := (List.getElem?_eq_some_iff.1 hj).1; rwa [hf] at this
  have := World.ownsRow.cells h (g := g) rfl (i * n + j) v (by rw [rowsC_get hf l i j hi hjn]; exact hj)
  rw [Addr.add_lit] at this
  rw [Nat.add_assoc]
  exact this
/-- new rows of the call's own -/
abbrev Item.rows {α : Type} (e : TypeId) (n : Nat) (f : α → List Value) (A : Option Addr) (c : Nat) (l : List α) : Item := .own e n A l.length c (rowsC f l)
theorem Hp.rd {α : Type} {f : α → List Value} {n : Nat} (hf : ∀ x, (f x).length = n) {w0 w : World} {L : List Item} (H : Hp w0 w L) (i : Nat) {e : TypeId} {A : Option Addr} {c : Nat} {l : List α} (hL : L[i]? = some (.rows e n f A c l)) : RdR f n w A l :=
  World.ownsRow.rdR hf (H.holds _ (List.mem_of_getElem? hL))
theorem Hp.nilRow {w0 w : World} {L : List Item} (H : Hp w0 w L) (e : TypeId) (n : Nat) : Hp w0 w (.own e n none 0 0 [] :: L) := by
  refine ⟨H.below, ?_, ?_, ?_⟩
  · intro x hx
    rcases List.mem_cons.1 hx with rfl | hx
    · exact World.ownsRow_nil w _ _ _
    · exact H.holds x hx
  · intro x hx k hk
    rcases List.mem_cons.1 hx with rfl | hx
    · cases hk
    · exact H.fresh x hx k hk
  · exact List.pairwise_cons.2 ⟨fun y hy k hk => (by cases hk), H.apart⟩
/-- one row appended -/
theorem Hp.appRow {w0 w : World} {L : List Item} (H : Hp w0 w L) {t e : TypeId} {size bytes : Nat} {z : Value} (ht : Tryd.prog.underlying t = some (.slice e)) (hi : (Tryd.prog.info? e).map (fun i => (i.zero, i.size, i.bytes)) = some (some z, size, bytes)) (hz : z.cells.size = size) (hs0 : 0 < size) (hby : bytes ≤ 1000)
    (ty : TypeId) (i : Nat) {A : Option Addr} {n c : Nat} {xs : List Value} (hL : L[i]? = some (.own e size A n c xs)) (j : Nat) {g : Nat} {e2 : TypeId} {vs : List Value} (hj : L[j]? = some (.blk g e2 vs)) (hl : vs.length = size) (h1 : ∀ u ∈ vs, u.oneCell' = true) (hn : n ≤ 1000000) (c2 : Nat) :
    ∃ A' c' w', (Builtin.append_ #[t, t] ty #[.slice A n c, .slice (some ⟨g, 0, none⟩) 1 c2]).run Tryd.prog w = .ok (.slice A' (n + 1) c') w' ∧ Hp w0 w' (L.set i (.own e size A' (n + 1) c' (xs ++ vs))) := by
  obtain ⟨ti, hti, hz0, hz1, hz2⟩ := info_parts hi
  refine H.appendRun i hL t ty ti z bytes ht hti hz0 hz1 hz2 hz hs0 ⟨g, 0, none⟩ 1 c2 vs (by rw [hl, Nat.one_mul]) ?_ h1 (by have := le_maxLen; omega) ?_ (by omega)
  · intro k u hk
    rw [Addr.add_lit, Nat.zero_add]
    exact H.c j hj k hk
  · have : (n + 1) * bytes ≤ 1000001 * 1000 := Nat.mul_le_mul (by omega) hby
    omega
theorem ex_app {a : Act} {oi : Oper} {s x : Operand} {t u2 : TypeId} {u v r : Value} {w w' : World} (ho : oi.op = .call { callee := .builtin .append, args := #[s, x], argTypes := #[t, u2] }) (hs : a.eval s = u) (hx : a.eval x = v)
    (h : (Builtin.append_ #[t, u2] oi.type #[u, v]).run Tryd.prog w = .ok r w') : (execOp a.eval oi).run Tryd.prog w = .ok (.value r) w' := by
  subst hs hx
  unfold execOp
  simp only [ho, resolve, invoke, builtin, Sem.run_bind, Sem.run_pure, Result.andThen_ok, List.map_toArray, List.map_cons, List.map_nil, h]
section
variable {a : Act} {w0 w : World} {Q : Exit → Act → World → Prop} {L : List Item} {ops : Array Oper} {rest : List Oper} {d : Option Tmp} {tt t e : TypeId} {ps : String} {af : Array Edge} {x s : Operand}
/-- one row appended: the walk's step -/
theorem Hp.wlAppRow (H : Hp w0 w L) {size bytes : Nat} {z : Value} (ht : Tryd.prog.underlying t = some (.slice e)) (hi : (Tryd.prog.info? e).map (fun i => (i.zero, i.size, i.bytes)) = some (some z, size, bytes)) (hz : z.cells.size = size) (hs0 : Nat.ble 1 size = true) (hby : Nat.ble bytes 1000 = true)
    (h : ∃ (i : Nat) (A : Option Addr) (n c : Nat) (xs : List Value), a.eval s = .slice A n c ∧ L[i]? = some (.own e size A n c xs) ∧ ∃ (j g : Nat) (e2 : TypeId) (c2 : Nat) (vs : List Value), a.eval x = .slice (some ⟨g, 0, none⟩) 1 c2 ∧ L[j]? = some (.blk g e2 vs) ∧ vs.length = size ∧ (∀ u ∈ vs, u.oneCell' = true) ∧ n ≤ 1000000 ∧
      ∀ A' c' w', Hp w0 w' (L.set i (.own e size A' (n + 1) c' (xs ++ vs))) → wpList Tryd.prog ops Q rest (a.put d (.slice A' (n + 1) c')) w') :
    wpList Tryd.prog ops Q ({ dst := d, op := .call { callee := .builtin .append, args := #[s, x], argTypes := #[t, t] }, type := tt, pos := ps, after := af, guard := none } :: rest) a w := by
  obtain ⟨i, A, n, c, xs, hs, hL, j, g, e2, c2, vs, hx, hj, hl, h1, hn, hk⟩ := h
  obtain ⟨A', c', w', hrun, hH⟩ := H.appRow ht hi hz (Nat.le_of_ble_eq_true hs0) (Nat.le_of_ble_eq_true hby) tt i hL j hj hl h1 hn c2
  refine wpList_plain rfl fun K hK => ?_
  have := ex_app (a := a) (oi := { dst := d, op := .call { callee := .builtin .append, args := #[s, x], argTypes := #[t, t] }, type := tt, pos := ps, after := af, guard := none }) rfl hs hx hrun
  unfold Oper.wp
  rw [this]
  exact hK _ _ (hk A' c' w' hH)
end
section
variable {P : Program} {a : Act} {w0 w : World} {Q : Exit → Act → World → Prop} {L L0 : List Item} {t e : TypeId} {x s : Operand}
theorem ex_idx {oi : Oper} {ix : Operand} {w : World} {b o n c s i : Nat} {k : IntKind} {I : Int} (ho : oi.op = .indexAddr t x ix) (ht : P.underlying t = some (.slice e)) (hs : sizeT P e = some s) (hx : a.eval x = .slice (some ⟨b, o, none⟩) n c) (hi : a.eval ix = .int k I) (hI : I = (i : Int)) (hlt : i < n) :
    (execOp a.eval oi).run P w = .ok (.value (.pointer (some ⟨b, o + i * s, none⟩))) w := by
  subst hI
  have h1 : ¬ ((i : Int) < 0) := by omega
  have h2 : (i : Int) < (n : Int) := by omega
  unfold sizeT at hs
  cases hq : P.info? e with
  | none => rw [hq] at hs; cases hs
  | some ti =>
    rw [hq] at hs
    simp only [Option.map_some, Option.some.injEq] at hs
    have hst : ((sizeOf e).run P w) = .ok s w := by simp [sizeOf, typeInfo, hq, hs]
    have hE : P.elem t = e := by simp [Program.elem, ht]
    have := run_indexAt_slice (P := P) (w := w) t ⟨b, o, none⟩ n c k (i : Int) (by rw [hE]; exact ht)
    rw [if_pos ⟨by omega, h2⟩, hE, hst] at this
    simp [execOp, ho, hx, hi, this, Addr.add_lit]
/-- a slice of one struct, in a drawn region -/
theorem hw_bsl1 {oi : Oper} {K : Act → World → Prop} {n : Nat} {vs : List Value} (ho : oi.op = .buildSlice t 1 #[(0, x)]) (ht : P.underlying t = some (.slice e)) (hi : (P.info? e).map (fun i => (i.zero.isSome, i.size)) = some (true, n)) (hn : Nat.ble n 1000 = true) (hn0 : Nat.ble 1 n = true) (hx : a.eval x = .agg vs.toArray) (hl : vs.length = n) (H : Hp w0 w L)
    (h : ∀ g w', Hp w0 w' (.blk g e vs :: L) → K (a.put oi.dst (.slice (some ⟨g, 0, none⟩) 1 1)) w') : oi.wp P a w K Q :=
  hw_turn (ex_bsl1 ho ht hi (Nat.le_of_ble_eq_true hn) (Nat.le_of_ble_eq_true hn0) hx hl) (h _ _ (H.alloc _ _))
/-- one row appended, in a drawn region -/
theorem hw_appRow {oi : Oper} {K : Act → World → Prop} {size bytes : Nat} {z : Value} {A : Option Addr} {n c : Nat} {xs : List Value} {g c2 : Nat} {e2 : TypeId} {vs : List Value} (ho : oi.op = .call { callee := .builtin .append, args := #[s, x], argTypes := #[t, t] }) (hs : a.eval s = .slice A n c) (hx : a.eval x = .slice (some ⟨g, 0, none⟩) 1 c2)
    (ht : Tryd.prog.underlying t = some (.slice e)) (hi : (Tryd.prog.info? e).map (fun i => (i.zero, i.size, i.bytes)) = some (some z, size, bytes)) (hz : z.cells.size = size) (hs0 : Nat.ble 1 size = true) (hby : Nat.ble bytes 1000 = true) (H : Hp w0 w L) (i j : Nat) (hL : L[i]? = some (.own e size A n c xs)) (hj : L[j]? = some (.blk g e2 vs)) (hl : vs.length = size) (h1 : ∀ u ∈ vs, u.oneCell' = true) (hn : n ≤ 1000000)
    (h : ∀ A' c' w', Hp w0 w' (L.set i (.own e size A' (n + 1) c' (xs ++ vs))) → K (a.put oi.dst (.slice A' (n + 1) c')) w') : oi.wp Tryd.prog a w K Q := by
  obtain ⟨A', c', w', hrun, hH⟩ := H.appRow ht hi hz (Nat.le_of_ble_eq_true hs0) (Nat.le_of_ble_eq_true hby) oi.type i hL j hj hl h1 hn c2
  exact hw_turn (ex_app ho hs hx hrun) (h _ _ _ hH)
end
/-- rows of a slice that came in, or of whatever can be read, appended -/
theorem Hp.appRd {α : Type} {f : α → List Value} {w0 w : World} {L : List Item} (H : Hp w0 w L) {t e : TypeId} {size bytes : Nat} {z : Value} (hf : ∀ x, (f x).length = size) (h1 : ∀ x, ∀ u ∈ f x, u.oneCell' = true) (ht : Tryd.prog.underlying t = some (.slice e)) (hi : (Tryd.prog.info? e).map (fun i => (i.zero, i.size, i.bytes)) = some (some z, size, bytes)) (hz : z.cells.size = size) (hs0 : 0 < size) (hby : bytes ≤ 1000)
    (ty : TypeId) (i : Nat) {A : Option Addr} {n c : Nat} {xs : List Value} (hL : L[i]? = some (.own e size A n c xs)) (A2 : Option Addr) (c2 : Nat) (l : List α) (hr : RdR f size w A2 l) (hn : n ≤ 1000000) (hl : l.length ≤ 1000000) :
    ∃ A' c' w', (Builtin.append_ #[t, t] ty #[.slice A n c, .slice A2 l.length c2]).run Tryd.prog w = .ok (.slice A' (n + l.length) c') w' ∧ Hp w0 w' (L.set i (.own e size A' (n + l.length) c' (xs ++ rowsC f l))) := by
  obtain ⟨ti, hti, hz0, hz1, hz2⟩ := info_parts hi
  have hown : w.ownsRow w0.heap.size e size (.slice A n c) n xs := H.holds _ (List.mem_of_getElem? hL)
  by_cases h0 : l = []
  · subst h0
    have hLe : L.set i (.own e size A n c xs) = L := by
      have := (List.getElem?_eq_some_iff.1 hL).2
      rw [← this, List.set_getElem_self]
    refine ⟨A, c, w, ?_, by rw [List.length_nil, Nat.add_zero, rowsC, List.map_nil, List.flatten_nil, List.append_nil, hLe]; exact H⟩
    cases A2 with
    | none => exact run_append_of_nil (P := Tryd.prog) w w0.heap.size t ty _ ti size ht hti _ _ _ hown c2
    | some ad =>
      have h00 : (loadCells ad 0).run Tryd.prog w = .ok #[] w := rfl
      rcases hown.2 with ⟨hv, hn⟩ | ⟨g, cap, cur, hv, _, _, hnc, _⟩
      · injection hv with v1 v2 v3
        subst v1 v2 v3
        simp [Builtin.append_, run_underlying ht, sizeOf, typeInfo, hti, Builtin.lenOf, Builtin.firstCells, h00]
      · injection hv with v1 v2 v3
        subst v1 v3
        simp [Builtin.append_, run_underlying ht, sizeOf, typeInfo, hti, Builtin.lenOf, Builtin.firstCells, hnc, storeCells, h00]
  · obtain ⟨b, o, rfl, hc⟩ := hr h0
    have hpos := List.length_pos_iff.2 h0
    refine H.appendRun i hL t ty ti z bytes ht hti hz0 hz1 hz2 hz hs0 ⟨b, o, none⟩ l.length c2 (rowsC f l) (rowsC_len hf l) ?_ ?_ (by have := le_maxLen; omega) ?_ (by omega)
    · intro j u hj
      have hjl : j < l.length * size := by have := (List.getElem?_eq_some_iff.1 hj).1; rwa [rowsC_len hf l] at this
      have hi2 : j / size < l.length := Nat.div_lt_of_lt_mul (by rw [Nat.mul_comm]; exact hjl)
      have hm := Nat.mod_lt j hs0
      have hd := Nat.div_add_mod j size
      rw [Nat.mul_comm] at hd
      rw [← hd, rowsC_get hf l _ _ hi2 hm] at hj
      have := hc _ hi2 _ _ hj
      rw [Addr.add_lit, ← this, ← hd, Nat.add_assoc]
      congr 3
      rw [hd, hd]
    · intro u hu
      unfold rowsC at hu
      obtain ⟨y, hy, huy⟩ := List.mem_flatten.1 hu
      obtain ⟨x, _, rfl⟩ := List.mem_map.1 hy
      exact h1 x u huy
    · have : (n + l.length) * bytes ≤ 2000000 * 1000 := Nat.mul_le_mul (by omega) hby
      omega
/-- a slice of none, in a block of its own -/
theorem Hp.bsl0 {w0 w : World} {L : List Item} {ops : Array Oper} {rest : List Oper} {a : Act} {Q : Exit → Act → World → Prop} {d : Option Tmp} {tt t e : TypeId} {ps : String} {af : Array Edge} {gd : Option (Nat × Bool)} (H : Hp w0 w L) {n : Nat} (ht : Tryd.prog.underlying t = some (.slice e)) (hi : (Tryd.prog.info? e).map (fun i => i.size) = some n)
    (h : Region.wanted { dst := d, op := .buildSlice t 0 #[], type := tt, pos := ps, after := af, guard := gd } (yielded ops a.tmps) = true ∧ ∀ g w', Hp w0 w' (.own e n (some ⟨g, 0, none⟩) 0 0 [] :: L) → wpList Tryd.prog ops Q rest (a.put d (.slice (some ⟨g, 0, none⟩) 0 0)) w') :
    wpList Tryd.prog ops Q ({ dst := d, op := .buildSlice t 0 #[], type := tt, pos := ps, after := af, guard := gd } :: rest) a w := by
  obtain ⟨h1, hk⟩ := h
  cases hq : Tryd.prog.info? e with
  | none => rw [hq] at hi; cases hi
  | some i =>
    rw [hq] at hi
    simp only [Option.map_some, Option.some.injEq] at hi
    have he : (execOp a.eval { dst := d, op := .buildSlice t 0 #[], type := tt, pos := ps, after := af, guard := gd }).run Tryd.prog w = .ok (.value (.slice (some ⟨w.heap.size, 0, none⟩) 0 0)) (w.alloc (.cells #[] e)) := by
      simp [execOp, Instr.buildSlice, run_underlying ht, sizeOf, typeInfo, hq, newRow, Instr.fill]
      congr 2
      apply Array.ext <;> simp
    have ho : (w.alloc (.cells #[] e)).ownsRow w0.heap.size e n (.slice (some ⟨w.heap.size, 0, none⟩) 0 0) 0 [] := by
      have := World.ownsRow_lit (base := w0.heap.size) (e := e) (size := n) w #[] 0 H.size (by unfold maxLen; omega) (by simp)
      simpa using this
    have H1 : Hp w0 (w.alloc (.cells #[] e)) (.own e n (some ⟨w.heap.size, 0, none⟩) 0 0 [] :: L) :=
      H.new (H.below.alloc H.size _) (by simp) (fun k hk => Below.heap_alloc w _ k hk) ho (fun k hk => by simp [Item.foot] at hk; subst hk; simp)
    refine BigFrame.wpList_want h1 fun K hK => ?_
    unfold Oper.wp
    rw [he]
    exact hK _ _ (hk _ _ H1)
/-- rows appended: the walk's step -/
theorem Hp.wlAppRd {α : Type} {f : α → List Value} {w0 w : World} {L : List Item} {ops : Array Oper} {rest : List Oper} {a : Act} {Q : Exit → Act → World → Prop} {d : Option Tmp} {tt t e : TypeId} {ps : String} {af : Array Edge} {x s : Operand} (H : Hp w0 w L) {size bytes : Nat} {z : Value} (hf : ∀ x, (f x).length = size) (h1 : ∀ x, ∀ u ∈ f x, u.oneCell' = true)
    (ht : Tryd.prog.underlying t = some (.slice e)) (hi : (Tryd.prog.info? e).map (fun i => (i.zero, i.size, i.bytes)) = some (some z, size, bytes)) (hz : z.cells.size = size) (hs0 : Nat.ble 1 size = true) (hby : Nat.ble bytes 1000 = true)
    (h : ∃ (i : Nat) (A : Option Addr) (n c : Nat) (xs : List Value), a.eval s = .slice A n c ∧ L[i]? = some (.own e size A n c xs) ∧ ∃ (A2 : Option Addr) (m c2 : Nat) (l : List α), a.eval x = .slice A2 m c2 ∧ m = l.length ∧ RdR f size w A2 l ∧ n ≤ 1000000 ∧ l.length ≤ 1000000 ∧
      ∀ A' c' w', Hp w0 w' (L.set i (.own e size A' (n + l.length) c' (xs ++ rowsC f l))) → wpList Tryd.prog ops Q rest (a.put d (.slice A' (n + l.length) c')) w') :
    wpList Tryd.prog ops Q ({ dst := d, op := .call { callee := .builtin .append, args := #[s, x], argTypes := #[t, t] }, type := tt, pos := ps, after := af, guard := none } :: rest) a w := by
  obtain ⟨i, A, n, c, xs, hs, hL, A2, m, c2, l, hx, rfl, hr, hn, hl, hk⟩ := h
  obtain ⟨A', c', w', hrun, hH⟩ := H.appRd hf h1 ht hi hz (Nat.le_of_ble_eq_true hs0) (Nat.le_of_ble_eq_true hby) tt i hL A2 c2 l hr hn hl
  refine wpList_plain rfl fun K hK => ?_
  have := ex_app (a := a) (oi := { dst := d, op := .call { callee := .builtin .append, args := #[s, x], argTypes := #[t, t] }, type := tt, pos := ps, after := af, guard := none }) rfl hs hx hrun
  unfold Oper.wp
  rw [this]
  exact hK _ _ (hk A' c' w' hH)
/-- a cell of rows of the call's own -/
theorem Hp.cellR {α : Type} {f : α → List Value} {n : Nat} (hf : ∀ x, (f x).length = n) {w0 w : World} {L : List Item} (H : Hp w0 w L) (i : Nat) {e : TypeId} {b o c : Nat} {l : List α} (hL : L[i]? = some (.rows e n f (some ⟨b, o, none⟩) c l)) (k j : Nat) (hk : k < l.length) {v : Value} (hv : (f l[k])[j]? = some v) : w.cell? ⟨b, o + k * n + j, none⟩ = some v := by
  obtain ⟨b', o', e', hc⟩ := (H.rd hf i hL).at_ hk
  injection e' with e'
  injection e' with e1 e2
  subst e1 e2
  exact hc k hk j v hv
theorem hq_ldW {P : Program} {a : Act} {w0 : World} {L : List Item} {ops : Array Oper} {rest : List Oper} {d : Option Tmp} {ty tt : TypeId} {x : Operand} {ps : String} {af : Array Edge} {gd : Option (Nat × Bool)} {Q : Act → Prop} (h : Region.wanted { dst := d, op := .load ty x, type := tt, pos := ps, after := af, guard := gd } (yielded ops a.tmps) = true ∧ oneT P ty = true ∧ ∃ p, a.eval x = .pointer (some p) ∧
    ∃ v, (∀ y : HpS w0 L, y.val.cell? p = some v) ∧ wpQuiet P ops (fun w' => ∃ x : HpS w0 L, w' = x.val) Q rest (a.put d v)) :
    wpQuiet P ops (fun w' => ∃ x : HpS w0 L, w' = x.val) Q ({ dst := d, op := .load ty x, type := tt, pos := ps, after := af, guard := gd } :: rest) a := by
  obtain ⟨h1, h2, p, hx, v, hv, h⟩ := h
  refine BigFrame.wpQuiet_want h1 fun K hK => quiet_of_run v ?_ (hK _ h)
  rintro w ⟨y, rfl⟩
  have := run_loadAt_cell (P := P) (oneT_c h2) (hv y)
  simp [execOp, hx, this]
end Go.Proofs.YtiieakndjheknaaDoor

/-
  A RANGE OVER A STRING, its place as one object of the small heap.
-/
namespace Go.Proofs.YtiieakndjheknaaDoor
set_option maxRecDepth 100000
open Go.RowKit
set_option linter.unusedVariables false
set_option linter.unusedSimpArgs false
def oset (w : World) (r : Nat) (o : Obj) : World := { w with heap := w.heap.setIfInBounds r o }
theorem Hp.newObj {w0 w : World} {L : List Item} (H : Hp w0 w L) (o : Obj) : Hp w0 (w.alloc o) (.obj w.heap.size o :: L) :=
  H.new (H.below.alloc H.size _) (by simp) (fun k hk => Below.heap_alloc w _ k hk) (heap_alloc_new w o) (fun k hk => by simp [Item.foot] at hk; subst hk; simp)
theorem Hp.setO {w0 w : World} {L : List Item} (H : Hp w0 w L) (i : Nat) {r : Nat} {o : Obj} (hL : L[i]? = some (.obj r o)) (o' : Obj) : Hp w0 (oset w r o') (L.set i (.obj r o')) := by
  have hi : i < L.length := (List.getElem?_eq_some_iff.1 hL).1
  have H1 := H.front i hL
  have hfr := H1.fresh _ List.mem_cons_self r rfl
  have hoth : ∀ k, k ≠ r → (oset w r o').heap[k]? = w.heap[k]? := fun k hk => by simp [oset, Array.getElem?_setIfInBounds, Ne.symm hk]
  have hsame : (oset w r o').heap[r]? = some o' := by simp [oset, hfr.2]
  refine Hp.back i hi (H1.upd ⟨H.below.os, H.below.tape, H.below.output, by simpa [oset] using H.below.size, fun k hk => ?_⟩ (by simp [oset]) ?_ hsame ?_)
  · rw [hoth k (by omega)]; exact H.below.block k hk
  · intro k hk hne
    exact hoth k (fun e => hne (by simp [Item.foot, e]))
  · intro k hk
    simp [Item.foot] at hk
    subst hk
    exact ⟨.inl rfl, hfr.1, by simpa [oset] using hfr.2⟩
theorem Hp.obO {w0 w : World} {L : List Item} (H : Hp w0 w L) (i : Nat) {r : Nat} {o : Obj} (hL : L[i]? = some (.obj r o)) : w.heap[r]? = some o := H.holds _ (List.mem_of_getElem? hL)
/-- a string's place -/
abbrev itS (g : Nat) (l : List UInt8) (pos : Nat) : Item := .obj g (.stringIter ⟨l.toArray⟩ pos)
section
variable {P : Program}
theorem run_nextS {w : World} {g : Nat} {s : ByteArray} {pos : Nat} (ty : TypeId) (hg : w.heap[g]? = some (.stringIter s pos)) (h : pos < s.size) (ha : (s[pos]'h).toNat < 128) :
    (Instr.next (.pointer (some ⟨g, 0, none⟩)) true ty).run P w = .ok (.tuple #[.bool true, .int .i64 pos, .int .i32 (s[pos]'h).toNat]) (oset w g (.stringIter s (pos + 1))) := by
  simp only [Instr.next, getObj, setObj, Sem.run_bind, Sem.run, hg, Result.andThen, h, if_true, decode_ascii s pos h ha]
  simp [goInt, Sem.run, hg, oset]
theorem run_nextE {w : World} {g : Nat} {s : ByteArray} {pos : Nat} (ty : TypeId) (hg : w.heap[g]? = some (.stringIter s pos)) (h : ¬ pos < s.size) :
    (Instr.next (.pointer (some ⟨g, 0, none⟩)) true ty).run P w = .ok (.tuple #[.bool false]) w := by
  simp [Instr.next, getObj, Sem.run, hg, h]
variable {a : Act} {w0 w : World} {Q : Exit → Act → World → Prop} {L : List Item} {ops : Array Oper} {rest : List Oper} {d : Option Tmp} {tt t : TypeId} {ps : String} {af : Array Edge} {gd : Option (Nat × Bool)} {x : Operand}
theorem Hp.rngS (H : Hp w0 w L) (ht : P.underlying t = some .string) (h : Region.wanted { dst := d, op := .range t x, type := tt, pos := ps, after := af, guard := gd } (yielded ops a.tmps) = true ∧ ∃ l : List UInt8, a.eval x = .string ⟨l.toArray⟩ ∧
    ∀ g w', Hp w0 w' (itS g l 0 :: L) → wpList P ops Q rest (a.put d (.pointer (some ⟨g, 0, none⟩))) w') :
    wpList P ops Q ({ dst := d, op := .range t x, type := tt, pos := ps, after := af, guard := gd } :: rest) a w := by
  obtain ⟨h1, l, hx, hk⟩ := h
  refine BigFrame.wpList_want h1 fun K hK => ?_
  have := run_range_string (P := P) w t ⟨l.toArray⟩ ht
  unfold Oper.wp
  simp [execOp, hx, this]
  exact hK _ _ (hk _ _ (H.newObj _))
theorem Hp.nxtS (H : Hp w0 w L) (h : Region.wanted { dst := d, op := .next x true, type := tt, pos := ps, after := af, guard := gd } (yielded ops a.tmps) = true ∧ ∃ g, a.eval x = .pointer (some ⟨g, 0, none⟩) ∧ ∃ (i : Nat) (l : List UInt8) (pos : Nat), L[i]? = some (itS g l pos) ∧ ∃ hlt : pos < l.length, l[pos].toNat < 128 ∧
    ∀ w', Hp w0 w' (L.set i (itS g l (pos + 1))) → wpList P ops Q rest (a.put d (.tuple #[.bool true, .int .i64 pos, .int .i32 (l[pos].toNat : Int)])) w') :
    wpList P ops Q ({ dst := d, op := .next x true, type := tt, pos := ps, after := af, guard := gd } :: rest) a w := by
  obtain ⟨h1, g, hx, i, l, pos, hL, hlt, ha, hk⟩ := h
  refine BigFrame.wpList_want h1 fun K hK => ?_
  have := run_nextS (P := P) (s := ⟨l.toArray⟩) (pos := pos) tt (H.obO i hL) (by show pos < l.toArray.size; simpa using hlt) ha
  unfold Oper.wp
  simp [execOp, hx, this]
  exact hK _ _ (hk _ (H.setO i hL _))
theorem Hp.nxtE (H : Hp w0 w L) (h : Region.wanted { dst := d, op := .next x true, type := tt, pos := ps, after := af, guard := gd } (yielded ops a.tmps) = true ∧ ∃ g, a.eval x = .pointer (some ⟨g, 0, none⟩) ∧ ∃ (i : Nat) (l : List UInt8) (pos : Nat), L[i]? = some (itS g l pos) ∧ l.length = pos ∧
    wpList P ops Q rest (a.put d (.tuple #[.bool false])) w) :
    wpList P ops Q ({ dst := d, op := .next x true, type := tt, pos := ps, after := af, guard := gd } :: rest) a w := by
  obtain ⟨h1, g, hx, i, l, pos, hL, hlt, hk⟩ := h
  have := run_nextE (P := P) (s := ⟨l.toArray⟩) (pos := pos) tt (H.obO i hL) (by show ¬ pos < l.toArray.size; simp [hlt])
  exact wl_val _ h1 (by simp [execOp, hx, this]) hk
end
end Go.Proofs.YtiieakndjheknaaDoor

/-
  THE WALK OF sextonref20.Copy.
-/
namespace Go.Proofs.YtiieakndjheknaaDoor
set_option maxRecDepth 100000
open Go.RowKit
set_option linter.unusedVariables false
set_option linter.unusedSimpArgs false
theorem rp_info : (Tryd.prog.info? 71).map (fun i => (i.zero, i.size, i.bytes)) = some (some (.agg (rpC rp0).toArray), 11, 112) := by kernel_rfl
theorem rps_u : Tryd.prog.underlying 31 = some (.slice 71) := Tryd.underlying31
theorem rpC_len (x : Rp) : (rpC x).length = 11 := rfl
theorem rpC_one (x : Rp) : ∀ u ∈ rpC x, u.oneCell' = true := by
  intro u hu
  simp only [rpC, List.mem_cons, List.not_mem_nil, or_false] at hu
  rcases hu with rfl | rfl | rfl | rfl | rfl | rfl | rfl | rfl | rfl | rfl | rfl <;> rfl
theorem RRp.rdR {w : World} {A : Option Addr} {rs : List Rp} (h : RRp w A rs) : RdR rpC 11 w A rs := h
theorem RRp.ofR {w : World} {A : Option Addr} {rs : List Rp} (h : RdR rpC 11 w A rs) : RRp w A rs := h
/-- the message with lists of its own -/
def cpM (m : Mg) (rs : List Rp) (l : List UInt8) (A : Option Addr) (c : Nat) (B : Option Addr) (d : Nat) : Mg := { m with rA := A, rn := rs.length, rc := c, yA := B, yn := l.length, yc := d }
abbrev rwI (A : Option Addr) (c : Nat) (rs : List Rp) : Item := .rows 71 11 rpC A c rs
def RetCp (w : World) (m : Mg) (rs : List Rp) (l : List UInt8) (e : Ending) (w' : World) : Prop :=
  ∃ A c B d, e = .returned (.agg (mgC (cpM m rs l A c B d)).toArray) ∧ Hp w w' [.bytes B d l, rwI A c rs]
theorem own_caps {w : World} {base : Nat} {e : TypeId} {size : Nat} {A : Option Addr} {n c : Nat} {xs : List Value} (h : w.ownsRow base e size (.slice A n c) n xs) : n ≤ c ∧ c ≤ maxLen := by
  rcases h.2 with ⟨hv, hn⟩ | ⟨g, cap, cur, hv, hbb, hg, hnc, hcm, _⟩
  · injection hv with h1 h2 h3
    subst h3 h2
    exact ⟨Nat.le_refl _, Nat.zero_le _⟩
  · injection hv with h1 h2 h3
    subst h3
    exact ⟨hnc, hcm⟩
set_option maxHeartbeats 4000000 in
theorem rcopy_any (m : Mg) (rs : List Rp) (l : List UInt8) (w : World) (hR : MgR w m rs l) (hrs : rs.length ≤ 1000000) (hl : l.length ≤ 1000000) :
    Calls Tryd.prog 20 #[.agg (mgC m).toArray] w (RetCp w m rs l) := by
  have HRS := Lib.hid hrs
  have HLL : Hid (([] : List UInt8).length + l.length ≤ 140737488355328) := Lib.hid (by rw [List.length_nil]; omega)
  have H := ((Hp.nil w).nilRow 71 11).nilOwn
  go_enter Tryd.func20, Tryd.ntmps20
  go_wp2_with (first | ((with_reducible refine Hp.box H ?_); (first | refine ⟨rfl, mgC m, rfl, ?_⟩); (clear H; intro gm w1 H); go_frame) | ((with_reducible refine Hp.allo (ty := 34) H ?_); refine ⟨rfl, ?_⟩; refine ⟨_, z_look rfl, ?_⟩; (clear H; intro gr w1 H); go_frame) | ((with_reducible refine Hp.ld H ?_); refine ⟨rfl, ?_⟩; refine ⟨c_look rfl, ?_⟩; refine ⟨_, _, rfl, ?_⟩; (first | refine ⟨_, _, _, .z, ?_⟩ | refine ⟨_, _, _, .s .z, ?_⟩ | refine ⟨_, _, _, .s (.s .z), ?_⟩); refine ⟨_, rfl, ?_⟩; go_frame) | ((with_reducible refine Hp.lda H ?_); refine ⟨rfl, by kernel_rfl, ?_⟩; refine ⟨_, s_look rfl, ?_⟩; refine ⟨_, rfl, ?_⟩; (first | refine ⟨_, _, _, .z, ?_⟩ | refine ⟨_, _, _, .s .z, ?_⟩ | refine ⟨_, _, _, .s (.s .z), ?_⟩); refine ⟨rfl, ?_⟩; go_frame) | ((with_reducible refine Hp.lds H ?_); refine ⟨rfl, by kernel_rfl, ?_⟩; refine ⟨_, s_look rfl, ?_⟩; refine ⟨_, _, rfl, ?_⟩; (first | refine ⟨_, _, _, .z, ?_⟩ | refine ⟨_, _, _, .s .z, ?_⟩ | refine ⟨_, _, _, .s (.s .z), ?_⟩); (first | refine ⟨[_, _], rfl, rfl, ?_⟩ | refine ⟨[_, _, _, _], rfl, rfl, ?_⟩ | refine ⟨[_, _, _, _, _, _, _], rfl, rfl, ?_⟩ | refine ⟨[_, _, _], rfl, rfl, ?_⟩ | (fail)); go_frame) | ((with_reducible refine Hp.stv H ?_); refine ⟨rfl, ?_⟩; refine ⟨c_look rfl, ?_⟩; (first | refine ⟨.bool _, rfl, ?_⟩ | refine ⟨.int _ _, rfl, ?_⟩ | refine ⟨.string _, rfl, ?_⟩ | refine ⟨.slice _ _ _, rfl, ?_⟩ | refine ⟨.pointer _, rfl, ?_⟩); refine ⟨rfl, _, _, rfl, ?_⟩; (first | refine ⟨_, _, _, .z, ?_⟩ | refine ⟨_, _, _, .s .z, ?_⟩ | refine ⟨_, _, _, .s (.s .z), ?_⟩); refine ⟨⟨_, rfl⟩, ?_⟩; (clear H; intro w1 H; simp only [List.set] at H); go_frame) | ((with_reducible refine Hp.sta H ?_); refine ⟨rfl, ?_⟩; refine ⟨_, s_look rfl, ?_⟩; refine ⟨_, rfl, _, rfl, rfl, ?_⟩; (first | refine ⟨_, _, _, .z, ?_⟩ | refine ⟨_, _, _, .s .z, ?_⟩ | refine ⟨_, _, _, .s (.s .z), ?_⟩); refine ⟨rfl, rfl, ?_⟩; (clear H; intro w1 H; simp only [List.set] at H); go_frame) | ((with_reducible refine Hp.str H ?_); refine ⟨rfl, ?_⟩; refine ⟨_, s_look rfl, ?_⟩; refine ⟨_, _, rfl, _, rfl, rfl, ?_⟩; (first | refine ⟨_, _, _, .z, ?_⟩ | refine ⟨_, _, _, .s .z, ?_⟩ | refine ⟨_, _, _, .s (.s .z), ?_⟩); refine ⟨rfl, _, rfl, _, rfl, Nat.le_of_ble_eq_true rfl, ?_⟩; (clear H; intro w1 H; simp only [List.set] at H); go_frame) | (at_builtin; (with_reducible refine Hp.wlAppRd (f := rpC) H rpC_len rpC_one rps_u rp_info rfl rfl rfl ?_); refine ⟨3, none, 0, 0, [], rfl, rfl, _, _, _, rs, rfl, hR.n1, (hR.rr.below H.below).rdR, Nat.zero_le _, HRS.out, ?_⟩; (clear H; intro A1 c1 w1 H); simp only [List.set_cons_succ, List.set_cons_zero, List.nil_append, Nat.zero_add] at H) | (at_builtin; refine H.wlAppendBytes rfl _ _ rfl 2 none 0 0 [] (by rfl) rfl rfl _ _ _ l (by rfl) hR.n2 (hR.yr.below H.below) HLL.out ?_; (clear H; intro A2 c2 w1 H); simp only [List.set_cons_succ, List.set_cons_zero, List.nil_append, Nat.zero_add] at H))
  exact bodyPost_ret (results_c rfl rfl (H.var (by kernel_rfl) (t := 34) (cs := mgC (cpM m rs l A1 c1 A2 c2)) .z s_Msg)) rfl ⟨A1, c1, A2, c2, rfl, H.pick [2, 3] (by decide) rfl⟩
end Go.Proofs.YtiieakndjheknaaDoor

/-
  THE WALK OF sextonlaw20's Great.
-/
namespace Go.Proofs.YtiieakndjheknaaDoor
set_option maxRecDepth 100000
open Go.RowKit
set_option linter.unusedVariables false
set_option linter.unusedSimpArgs false
def opB (s0 s1 s2 : ByteArray) : Bool := decide ((s0.size : Int) ≤ 500) && (decide ((s1.size : Int) ≤ 500) && decide ((s2.size : Int) ≤ 500))
set_option maxHeartbeats 2000000 in
theorem op_any (k : Int) (s0 s1 s2 : ByteArray) (w : World) : Calls Tryd.prog 32 #[.agg (opC k s0 s1 s2).toArray] w (RetV w (.bool (opB s0 s1 s2))) := by
  have H := Hp.nil w
  cases d0 : decide ((s0.size : Int) ≤ 500)
  · go_enter Tryd.func32, Tryd.ntmps32
    go_wp2_with (first | ((with_reducible refine Hp.box H ?_); (first | refine ⟨rfl, [.pointer _], rfl, ?_⟩ | refine ⟨rfl, [.int _ _], rfl, ?_⟩ | refine ⟨rfl, [.slice _ _ _], rfl, ?_⟩ | refine ⟨rfl, [.bool _], rfl, ?_⟩ | refine ⟨rfl, [.string _], rfl, ?_⟩ | refine ⟨rfl, _, rfl, ?_⟩); (clear H; intro g1 w1 H); go_frame) | ((with_reducible refine Hp.ld H ?_); refine ⟨rfl, ?_⟩; refine ⟨c_look rfl, ?_⟩; refine ⟨_, _, rfl, ?_⟩; ((repeat ((fail_if_success refine ⟨_, _, _, .z, ?_⟩); refine hs ?_)); refine ⟨_, _, _, .z, ?_⟩); refine ⟨_, rfl, ?_⟩; go_frame) | (fail))
    go_ret
    exact ⟨ret_bool (by rw [opB, d0]; rfl), H.below⟩
  · cases d1 : decide ((s1.size : Int) ≤ 500)
    all_goals
      cases d2 : decide ((s2.size : Int) ≤ 500)
      all_goals
        go_enter Tryd.func32, Tryd.ntmps32
        go_wp2_with (first | ((with_reducible refine Hp.box H ?_); (first | refine ⟨rfl, [.pointer _], rfl, ?_⟩ | refine ⟨rfl, [.int _ _], rfl, ?_⟩ | refine ⟨rfl, [.slice _ _ _], rfl, ?_⟩ | refine ⟨rfl, [.bool _], rfl, ?_⟩ | refine ⟨rfl, [.string _], rfl, ?_⟩ | refine ⟨rfl, _, rfl, ?_⟩); (clear H; intro g1 w1 H); go_frame) | ((with_reducible refine Hp.ld H ?_); refine ⟨rfl, ?_⟩; refine ⟨c_look rfl, ?_⟩; refine ⟨_, _, rfl, ?_⟩; ((repeat ((fail_if_success refine ⟨_, _, _, .z, ?_⟩); refine hs ?_)); refine ⟨_, _, _, .z, ?_⟩); refine ⟨_, rfl, ?_⟩; go_frame) | (fail))
        go_ret
        exact ⟨ret_bool (by rw [opB, d0, d1, d2]; rfl), H.below⟩
theorem op_b {k : Int} {s0 s1 s2 : ByteArray} {b : Bool} (h : opB s0 s1 s2 = b) (w : World) : Calls Tryd.prog 32 #[.agg (opC k s0 s1 s2).toArray] w (RetV w (.bool b)) := by
  subst h
  exact op_any k s0 s1 s2 w
/-- is it more than is gone through? -/
def grM (m : Mg) (rs : List Rp) : Bool := decide ((1000 : Int) < m.yn) || (decide ((100 : Int) < m.rn) || (decide ((500 : Int) < m.rv.size) || (!opB m.o0 m.o1 m.o2 || (!opB m.e.s0 m.e.s1 m.e.s2 || rs.any fun x => !opB x.e.s0 x.e.s1 x.e.s2))))
theorem grM_no {m : Mg} {rs : List Rp} (h : grM m rs = false) : m.yn ≤ 1000 ∧ m.rn ≤ 100 ∧ m.rv.size ≤ 500 ∧ opB m.o0 m.o1 m.o2 = true ∧ opB m.e.s0 m.e.s1 m.e.s2 = true ∧ ∀ x ∈ rs, opB x.e.s0 x.e.s1 x.e.s2 = true := by
  simp only [grM, Bool.or_eq_false_iff, decide_eq_false_iff_not, Bool.not_eq_false', List.any_eq_false, Bool.not_eq_true', Bool.not_eq_false] at h
  obtain ⟨h1, h2, h3, h4, h5, h6⟩ := h
  exact ⟨by omega, by omega, by omega, h4, h5, fun x hx => by have := h6 x hx; simpa using this⟩
/-- the loop's relation -/
def GRel (w : World) (m : Mg) (rs : List Rp) (g : Nat) (v : Value) (wr : World) : Prop := ∃ k : Nat, k ≤ m.rn ∧ v = .int .i64 k ∧ (∀ i (h : i < rs.length), i < k → opB rs[i].e.s0 rs[i].e.s1 rs[i].e.s2 = true) ∧ Hp w wr [.blk g 34 (mgC m)]
set_option maxRecDepth 100000 in
set_option maxHeartbeats 4000000 in
theorem greatM_any (m : Mg) (rs : List Rp) (l : List UInt8) (w : World) (hr : MgR w m rs l) : Calls Tryd.prog 8 #[.agg (mgC m).toArray] w (RetV w (.bool (grM m rs))) := by
  have H := Hp.nil w
  obtain ⟨h1, h2, h3, h4, h5, h6, h7, h8, h9⟩ := hr
  have H1 := Lib.hid h1
  clear h1 h6
  cases d0 : decide ((1000 : Int) < m.yn)
  · cases d1 : decide ((100 : Int) < m.rn)
    · cases d2 : decide ((500 : Int) < m.rv.size)
      · cases d3 : opB m.o0 m.o1 m.o2
        · have d4 := True.intro
          have hx := True.intro
          have hrk := True.intro
          go_enter Tryd.func8, Tryd.ntmps8; go_wp2_with (first | ((with_reducible refine Hp.box H ?_); (first | refine ⟨rfl, [.pointer _], rfl, ?_⟩ | refine ⟨rfl, [.int _ _], rfl, ?_⟩ | refine ⟨rfl, [.slice _ _ _], rfl, ?_⟩ | refine ⟨rfl, [.bool _], rfl, ?_⟩ | refine ⟨rfl, [.string _], rfl, ?_⟩ | refine ⟨rfl, _, rfl, ?_⟩); (clear H; intro g1 w1 H); go_frame) | ((with_reducible refine Hp.ld H ?_); refine ⟨rfl, ?_⟩; refine ⟨c_look rfl, ?_⟩; refine ⟨_, _, rfl, ?_⟩; ((repeat ((fail_if_success refine ⟨_, _, _, .z, ?_⟩); refine hs ?_)); refine ⟨_, _, _, .z, ?_⟩); refine ⟨_, rfl, ?_⟩; go_frame) | ((with_reducible refine Hp.lda H ?_); refine ⟨rfl, by kernel_rfl, ?_⟩; refine ⟨_, s_look rfl, ?_⟩; refine ⟨_, rfl, ?_⟩; ((repeat ((fail_if_success refine ⟨_, _, _, .z, ?_⟩); refine hs ?_)); refine ⟨_, _, _, .z, ?_⟩); refine ⟨rfl, ?_⟩; go_frame) | ((with_reducible refine Hp.lds H ?_); refine ⟨rfl, by kernel_rfl, ?_⟩; refine ⟨_, s_look rfl, ?_⟩; refine ⟨_, _, rfl, ?_⟩; ((repeat ((fail_if_success refine ⟨_, _, _, .z, ?_⟩); refine hs ?_)); refine ⟨_, _, _, .z, ?_⟩); (first | refine ⟨opC m.ok m.o0 m.o1 m.o2, rfl, rfl, ?_⟩ | refine ⟨opC m.e.ok m.e.s0 m.e.s1 m.e.s2, rfl, rfl, ?_⟩); go_frame) | ((with_reducible refine (op_b d3 _).mono ?_); rintro _ w1 ⟨rfl, hb⟩; replace H := H.call hb; clear hb) | ((with_reducible refine (op_b d4 _).mono ?_); rintro _ w1 ⟨rfl, hb⟩; replace H := H.call hb; clear hb) | ((with_reducible refine Hp.ldrO H ?_); refine ⟨rfl, by kernel_rfl, _, _, rfl, _, hrk, s_Op, ?_⟩; go_frame) | ((with_reducible refine (op_b hx _).mono ?_); rintro _ w1 ⟨rfl, hb⟩; replace H := H.call hb; clear hb))
          go_ret
          exact ⟨ret_bool (by rw [grM, d3]; simp), H.below⟩
        · cases d4 : opB m.e.s0 m.e.s1 m.e.s2
          · have hx := True.intro
            have hrk := True.intro
            go_enter Tryd.func8, Tryd.ntmps8; go_wp2_with (first | ((with_reducible refine Hp.box H ?_); (first | refine ⟨rfl, [.pointer _], rfl, ?_⟩ | refine ⟨rfl, [.int _ _], rfl, ?_⟩ | refine ⟨rfl, [.slice _ _ _], rfl, ?_⟩ | refine ⟨rfl, [.bool _], rfl, ?_⟩ | refine ⟨rfl, [.string _], rfl, ?_⟩ | refine ⟨rfl, _, rfl, ?_⟩); (clear H; intro g1 w1 H); go_frame) | ((with_reducible refine Hp.ld H ?_); refine ⟨rfl, ?_⟩; refine ⟨c_look rfl, ?_⟩; refine ⟨_, _, rfl, ?_⟩; ((repeat ((fail_if_success refine ⟨_, _, _, .z, ?_⟩); refine hs ?_)); refine ⟨_, _, _, .z, ?_⟩); refine ⟨_, rfl, ?_⟩; go_frame) | ((with_reducible refine Hp.lda H ?_); refine ⟨rfl, by kernel_rfl, ?_⟩; refine ⟨_, s_look rfl, ?_⟩; refine ⟨_, rfl, ?_⟩; ((repeat ((fail_if_success refine ⟨_, _, _, .z, ?_⟩); refine hs ?_)); refine ⟨_, _, _, .z, ?_⟩); refine ⟨rfl, ?_⟩; go_frame) | ((with_reducible refine Hp.lds H ?_); refine ⟨rfl, by kernel_rfl, ?_⟩; refine ⟨_, s_look rfl, ?_⟩; refine ⟨_, _, rfl, ?_⟩; ((repeat ((fail_if_success refine ⟨_, _, _, .z, ?_⟩); refine hs ?_)); refine ⟨_, _, _, .z, ?_⟩); (first | refine ⟨opC m.ok m.o0 m.o1 m.o2, rfl, rfl, ?_⟩ | refine ⟨opC m.e.ok m.e.s0 m.e.s1 m.e.s2, rfl, rfl, ?_⟩); go_frame) | ((with_reducible refine (op_b d3 _).mono ?_); rintro _ w1 ⟨rfl, hb⟩; replace H := H.call hb; clear hb) | ((with_reducible refine (op_b d4 _).mono ?_); rintro _ w1 ⟨rfl, hb⟩; replace H := H.call hb; clear hb) | ((with_reducible refine Hp.ldrO H ?_); refine ⟨rfl, by kernel_rfl, _, _, rfl, _, hrk, s_Op, ?_⟩; go_frame) | ((with_reducible refine (op_b hx _).mono ?_); rintro _ w1 ⟨rfl, hb⟩; replace H := H.call hb; clear hb))
            go_ret
            exact ⟨ret_bool (by rw [grM, d4]; simp), H.below⟩
          · by_cases h0 : rs = []
            · have hn0 : m.rn = 0 := by rw [H1.out, h0]; rfl
              have hx := True.intro
              have hrk := True.intro
              have HR0 := Lib.hid h0
              clear h0
              go_enter Tryd.func8, Tryd.ntmps8; go_wp2_with (first | ((with_reducible refine Hp.box H ?_); (first | refine ⟨rfl, [.pointer _], rfl, ?_⟩ | refine ⟨rfl, [.int _ _], rfl, ?_⟩ | refine ⟨rfl, [.slice _ _ _], rfl, ?_⟩ | refine ⟨rfl, [.bool _], rfl, ?_⟩ | refine ⟨rfl, [.string _], rfl, ?_⟩ | refine ⟨rfl, _, rfl, ?_⟩); (clear H; intro g1 w1 H); go_frame) | ((with_reducible refine Hp.ld H ?_); refine ⟨rfl, ?_⟩; refine ⟨c_look rfl, ?_⟩; refine ⟨_, _, rfl, ?_⟩; ((repeat ((fail_if_success refine ⟨_, _, _, .z, ?_⟩); refine hs ?_)); refine ⟨_, _, _, .z, ?_⟩); refine ⟨_, rfl, ?_⟩; go_frame) | ((with_reducible refine Hp.lda H ?_); refine ⟨rfl, by kernel_rfl, ?_⟩; refine ⟨_, s_look rfl, ?_⟩; refine ⟨_, rfl, ?_⟩; ((repeat ((fail_if_success refine ⟨_, _, _, .z, ?_⟩); refine hs ?_)); refine ⟨_, _, _, .z, ?_⟩); refine ⟨rfl, ?_⟩; go_frame) | ((with_reducible refine Hp.lds H ?_); refine ⟨rfl, by kernel_rfl, ?_⟩; refine ⟨_, s_look rfl, ?_⟩; refine ⟨_, _, rfl, ?_⟩; ((repeat ((fail_if_success refine ⟨_, _, _, .z, ?_⟩); refine hs ?_)); refine ⟨_, _, _, .z, ?_⟩); (first | refine ⟨opC m.ok m.o0 m.o1 m.o2, rfl, rfl, ?_⟩ | refine ⟨opC m.e.ok m.e.s0 m.e.s1 m.e.s2, rfl, rfl, ?_⟩); go_frame) | ((with_reducible refine (op_b d3 _).mono ?_); rintro _ w1 ⟨rfl, hb⟩; replace H := H.call hb; clear hb) | ((with_reducible refine (op_b d4 _).mono ?_); rintro _ w1 ⟨rfl, hb⟩; replace H := H.call hb; clear hb) | ((with_reducible refine Hp.ldrO H ?_); refine ⟨rfl, by kernel_rfl, _, _, rfl, _, hrk, s_Op, ?_⟩; go_frame) | ((with_reducible refine (op_b hx _).mono ?_); rintro _ w1 ⟨rfl, hb⟩; replace H := H.call hb; clear hb))
              refine wp_loop_rounds 1 ?_
              rw [rounds_succ]
              go_wp2_with (first | ((with_reducible refine Hp.box H ?_); (first | refine ⟨rfl, [.pointer _], rfl, ?_⟩ | refine ⟨rfl, [.int _ _], rfl, ?_⟩ | refine ⟨rfl, [.slice _ _ _], rfl, ?_⟩ | refine ⟨rfl, [.bool _], rfl, ?_⟩ | refine ⟨rfl, [.string _], rfl, ?_⟩ | refine ⟨rfl, _, rfl, ?_⟩); (clear H; intro g1 w1 H); go_frame) | ((with_reducible refine Hp.ld H ?_); refine ⟨rfl, ?_⟩; refine ⟨c_look rfl, ?_⟩; refine ⟨_, _, rfl, ?_⟩; ((repeat ((fail_if_success refine ⟨_, _, _, .z, ?_⟩); refine hs ?_)); refine ⟨_, _, _, .z, ?_⟩); refine ⟨_, rfl, ?_⟩; go_frame) | ((with_reducible refine Hp.lda H ?_); refine ⟨rfl, by kernel_rfl, ?_⟩; refine ⟨_, s_look rfl, ?_⟩; refine ⟨_, rfl, ?_⟩; ((repeat ((fail_if_success refine ⟨_, _, _, .z, ?_⟩); refine hs ?_)); refine ⟨_, _, _, .z, ?_⟩); refine ⟨rfl, ?_⟩; go_frame) | ((with_reducible refine Hp.lds H ?_); refine ⟨rfl, by kernel_rfl, ?_⟩; refine ⟨_, s_look rfl, ?_⟩; refine ⟨_, _, rfl, ?_⟩; ((repeat ((fail_if_success refine ⟨_, _, _, .z, ?_⟩); refine hs ?_)); refine ⟨_, _, _, .z, ?_⟩); (first | refine ⟨opC m.ok m.o0 m.o1 m.o2, rfl, rfl, ?_⟩ | refine ⟨opC m.e.ok m.e.s0 m.e.s1 m.e.s2, rfl, rfl, ?_⟩); go_frame) | ((with_reducible refine (op_b d3 _).mono ?_); rintro _ w1 ⟨rfl, hb⟩; replace H := H.call hb; clear hb) | ((with_reducible refine (op_b d4 _).mono ?_); rintro _ w1 ⟨rfl, hb⟩; replace H := H.call hb; clear hb) | ((with_reducible refine Hp.ldrO H ?_); refine ⟨rfl, by kernel_rfl, _, _, rfl, _, hrk, s_Op, ?_⟩; go_frame) | ((with_reducible refine (op_b hx _).mono ?_); rintro _ w1 ⟨rfl, hb⟩; replace H := H.call hb; clear hb))
              go_ret
              refine ⟨ret_bool ?_, H.below⟩
              rw [grM, d0, d1, d2, d3, d4, HR0.out]
              rfl
            · obtain ⟨b, o, hA, hrow⟩ := h2 h0
              have HROW := Lib.hid hrow
              clear hrow h0
              have hx := True.intro
              have hrk := True.intro
              go_enter Tryd.func8, Tryd.ntmps8; go_wp2_with (first | ((with_reducible refine Hp.box H ?_); (first | refine ⟨rfl, [.pointer _], rfl, ?_⟩ | refine ⟨rfl, [.int _ _], rfl, ?_⟩ | refine ⟨rfl, [.slice _ _ _], rfl, ?_⟩ | refine ⟨rfl, [.bool _], rfl, ?_⟩ | refine ⟨rfl, [.string _], rfl, ?_⟩ | refine ⟨rfl, _, rfl, ?_⟩); (clear H; intro g1 w1 H); go_frame) | ((with_reducible refine Hp.ld H ?_); refine ⟨rfl, ?_⟩; refine ⟨c_look rfl, ?_⟩; refine ⟨_, _, rfl, ?_⟩; ((repeat ((fail_if_success refine ⟨_, _, _, .z, ?_⟩); refine hs ?_)); refine ⟨_, _, _, .z, ?_⟩); refine ⟨_, rfl, ?_⟩; go_frame) | ((with_reducible refine Hp.lda H ?_); refine ⟨rfl, by kernel_rfl, ?_⟩; refine ⟨_, s_look rfl, ?_⟩; refine ⟨_, rfl, ?_⟩; ((repeat ((fail_if_success refine ⟨_, _, _, .z, ?_⟩); refine hs ?_)); refine ⟨_, _, _, .z, ?_⟩); refine ⟨rfl, ?_⟩; go_frame) | ((with_reducible refine Hp.lds H ?_); refine ⟨rfl, by kernel_rfl, ?_⟩; refine ⟨_, s_look rfl, ?_⟩; refine ⟨_, _, rfl, ?_⟩; ((repeat ((fail_if_success refine ⟨_, _, _, .z, ?_⟩); refine hs ?_)); refine ⟨_, _, _, .z, ?_⟩); (first | refine ⟨opC m.ok m.o0 m.o1 m.o2, rfl, rfl, ?_⟩ | refine ⟨opC m.e.ok m.e.s0 m.e.s1 m.e.s2, rfl, rfl, ?_⟩); go_frame) | ((with_reducible refine (op_b d3 _).mono ?_); rintro _ w1 ⟨rfl, hb⟩; replace H := H.call hb; clear hb) | ((with_reducible refine (op_b d4 _).mono ?_); rintro _ w1 ⟨rfl, hb⟩; replace H := H.call hb; clear hb) | ((with_reducible refine Hp.ldrO H ?_); refine ⟨rfl, by kernel_rfl, _, _, rfl, _, hrk, s_Op, ?_⟩; go_frame) | ((with_reducible refine (op_b hx _).mono ?_); rintro _ w1 ⟨rfl, hb⟩; replace H := H.call hb; clear hb))
              clear hx hrk
              have hat : GRel w m rs g1 (.int .i64 (0 : Nat)) w1 := ⟨0, Nat.zero_le _, rfl, fun i _ h => absurd h (by omega), H⟩
              clear H
              go_loopw [3] (fun v wr => GRel w m rs g1 v wr) (fun v _ => m.rn - (intOf v).toNat)
              case atStart => exact hat
              case round =>
                clear hat
                obtain ⟨k, hk, rfl, hall, H⟩ := hrel
                have HA := Lib.hid hall
                clear hall
                unfold maxLen at h5
                by_cases hlt : k < m.rn
                · have hlt' : k < rs.length := by rw [← H1.out]; exact hlt
                  have hrk0 := HROW.out k hlt'
                  have hrk : w.rangeAt b (o + k * 11 + 7) (opC rs[k].e.ok rs[k].e.s0 rs[k].e.s1 rs[k].e.s2) := fun j v hj => by
                    have h4 : j < 4 := (List.getElem?_eq_some_iff.1 hj).1
                    have := hrk0 (7 + j) v (by
                      obtain rfl | rfl | rfl | rfl : j = 0 ∨ j = 1 ∨ j = 2 ∨ j = 3 := by omega
                      all_goals exact hj)
                    rwa [← Nat.add_assoc] at this
                  obtain ⟨x, hxe⟩ : ∃ x, rs[k] = x := ⟨_, rfl⟩
                  rw [hxe] at hrk
                  have HXE := Lib.hid hxe
                  clear hxe hrk0
                  cases hx : opB x.e.s0 x.e.s1 x.e.s2
                  · go_wp2_with (first | ((with_reducible refine Hp.box H ?_); (first | refine ⟨rfl, [.pointer _], rfl, ?_⟩ | refine ⟨rfl, [.int _ _], rfl, ?_⟩ | refine ⟨rfl, [.slice _ _ _], rfl, ?_⟩ | refine ⟨rfl, [.bool _], rfl, ?_⟩ | refine ⟨rfl, [.string _], rfl, ?_⟩ | refine ⟨rfl, _, rfl, ?_⟩); (clear H; intro g1 w1 H); go_frame) | ((with_reducible refine Hp.ld H ?_); refine ⟨rfl, ?_⟩; refine ⟨c_look rfl, ?_⟩; refine ⟨_, _, rfl, ?_⟩; ((repeat ((fail_if_success refine ⟨_, _, _, .z, ?_⟩); refine hs ?_)); refine ⟨_, _, _, .z, ?_⟩); refine ⟨_, rfl, ?_⟩; go_frame) | ((with_reducible refine Hp.lda H ?_); refine ⟨rfl, by kernel_rfl, ?_⟩; refine ⟨_, s_look rfl, ?_⟩; refine ⟨_, rfl, ?_⟩; ((repeat ((fail_if_success refine ⟨_, _, _, .z, ?_⟩); refine hs ?_)); refine ⟨_, _, _, .z, ?_⟩); refine ⟨rfl, ?_⟩; go_frame) | ((with_reducible refine Hp.lds H ?_); refine ⟨rfl, by kernel_rfl, ?_⟩; refine ⟨_, s_look rfl, ?_⟩; refine ⟨_, _, rfl, ?_⟩; ((repeat ((fail_if_success refine ⟨_, _, _, .z, ?_⟩); refine hs ?_)); refine ⟨_, _, _, .z, ?_⟩); (first | refine ⟨opC m.ok m.o0 m.o1 m.o2, rfl, rfl, ?_⟩ | refine ⟨opC m.e.ok m.e.s0 m.e.s1 m.e.s2, rfl, rfl, ?_⟩); go_frame) | ((with_reducible refine (op_b d3 _).mono ?_); rintro _ w1 ⟨rfl, hb⟩; replace H := H.call hb; clear hb) | ((with_reducible refine (op_b d4 _).mono ?_); rintro _ w1 ⟨rfl, hb⟩; replace H := H.call hb; clear hb) | ((with_reducible refine Hp.ldrO H ?_); refine ⟨rfl, by kernel_rfl, _, _, rfl, _, hrk, s_Op, ?_⟩; go_frame) | ((with_reducible refine (op_b hx _).mono ?_); rintro _ w1 ⟨rfl, hb⟩; replace H := H.call hb; clear hb))
                    go_ret
                    refine ⟨ret_bool ?_, H.below⟩
                    have : (rs.any fun x => !opB x.e.s0 x.e.s1 x.e.s2) = true := List.any_eq_true.2 ⟨x, by rw [← HXE.out]; exact List.getElem_mem hlt', by rw [hx]; rfl⟩
                    rw [grM, this]
                    simp
                  · go_wp2_with (first | ((with_reducible refine Hp.box H ?_); (first | refine ⟨rfl, [.pointer _], rfl, ?_⟩ | refine ⟨rfl, [.int _ _], rfl, ?_⟩ | refine ⟨rfl, [.slice _ _ _], rfl, ?_⟩ | refine ⟨rfl, [.bool _], rfl, ?_⟩ | refine ⟨rfl, [.string _], rfl, ?_⟩ | refine ⟨rfl, _, rfl, ?_⟩); (clear H; intro g1 w1 H); go_frame) | ((with_reducible refine Hp.ld H ?_); refine ⟨rfl, ?_⟩; refine ⟨c_look rfl, ?_⟩; refine ⟨_, _, rfl, ?_⟩; ((repeat ((fail_if_success refine ⟨_, _, _, .z, ?_⟩); refine hs ?_)); refine ⟨_, _, _, .z, ?_⟩); refine ⟨_, rfl, ?_⟩; go_frame) | ((with_reducible refine Hp.lda H ?_); refine ⟨rfl, by kernel_rfl, ?_⟩; refine ⟨_, s_look rfl, ?_⟩; refine ⟨_, rfl, ?_⟩; ((repeat ((fail_if_success refine ⟨_, _, _, .z, ?_⟩); refine hs ?_)); refine ⟨_, _, _, .z, ?_⟩); refine ⟨rfl, ?_⟩; go_frame) | ((with_reducible refine Hp.lds H ?_); refine ⟨rfl, by kernel_rfl, ?_⟩; refine ⟨_, s_look rfl, ?_⟩; refine ⟨_, _, rfl, ?_⟩; ((repeat ((fail_if_success refine ⟨_, _, _, .z, ?_⟩); refine hs ?_)); refine ⟨_, _, _, .z, ?_⟩); (first | refine ⟨opC m.ok m.o0 m.o1 m.o2, rfl, rfl, ?_⟩ | refine ⟨opC m.e.ok m.e.s0 m.e.s1 m.e.s2, rfl, rfl, ?_⟩); go_frame) | ((with_reducible refine (op_b d3 _).mono ?_); rintro _ w1 ⟨rfl, hb⟩; replace H := H.call hb; clear hb) | ((with_reducible refine (op_b d4 _).mono ?_); rintro _ w1 ⟨rfl, hb⟩; replace H := H.call hb; clear hb) | ((with_reducible refine Hp.ldrO H ?_); refine ⟨rfl, by kernel_rfl, _, _, rfl, _, hrk, s_Op, ?_⟩; go_frame) | ((with_reducible refine (op_b hx _).mono ?_); rintro _ w1 ⟨rfl, hb⟩; replace H := H.call hb; clear hb))
                    go_roundw
                    case rel =>
                      refine ⟨k + 1, hlt, rfl, fun i h hi => ?_, H⟩
                      by_cases hik : i < k
                      · exact HA.out i h hik
                      · obtain rfl : i = k := by omega
                        rw [HXE.out]
                        exact hx
                    case measure => show m.rn - ((k : Int) + 1).toNat < m.rn - ((k : Int)).toNat; omega
                · obtain rfl : k = m.rn := by omega
                  have hx := True.intro
                  have hrk := True.intro
                  go_wp2_with (first | ((with_reducible refine Hp.box H ?_); (first | refine ⟨rfl, [.pointer _], rfl, ?_⟩ | refine ⟨rfl, [.int _ _], rfl, ?_⟩ | refine ⟨rfl, [.slice _ _ _], rfl, ?_⟩ | refine ⟨rfl, [.bool _], rfl, ?_⟩ | refine ⟨rfl, [.string _], rfl, ?_⟩ | refine ⟨rfl, _, rfl, ?_⟩); (clear H; intro g1 w1 H); go_frame) | ((with_reducible refine Hp.ld H ?_); refine ⟨rfl, ?_⟩; refine ⟨c_look rfl, ?_⟩; refine ⟨_, _, rfl, ?_⟩; ((repeat ((fail_if_success refine ⟨_, _, _, .z, ?_⟩); refine hs ?_)); refine ⟨_, _, _, .z, ?_⟩); refine ⟨_, rfl, ?_⟩; go_frame) | ((with_reducible refine Hp.lda H ?_); refine ⟨rfl, by kernel_rfl, ?_⟩; refine ⟨_, s_look rfl, ?_⟩; refine ⟨_, rfl, ?_⟩; ((repeat ((fail_if_success refine ⟨_, _, _, .z, ?_⟩); refine hs ?_)); refine ⟨_, _, _, .z, ?_⟩); refine ⟨rfl, ?_⟩; go_frame) | ((with_reducible refine Hp.lds H ?_); refine ⟨rfl, by kernel_rfl, ?_⟩; refine ⟨_, s_look rfl, ?_⟩; refine ⟨_, _, rfl, ?_⟩; ((repeat ((fail_if_success refine ⟨_, _, _, .z, ?_⟩); refine hs ?_)); refine ⟨_, _, _, .z, ?_⟩); (first | refine ⟨opC m.ok m.o0 m.o1 m.o2, rfl, rfl, ?_⟩ | refine ⟨opC m.e.ok m.e.s0 m.e.s1 m.e.s2, rfl, rfl, ?_⟩); go_frame) | ((with_reducible refine (op_b d3 _).mono ?_); rintro _ w1 ⟨rfl, hb⟩; replace H := H.call hb; clear hb) | ((with_reducible refine (op_b d4 _).mono ?_); rintro _ w1 ⟨rfl, hb⟩; replace H := H.call hb; clear hb) | ((with_reducible refine Hp.ldrO H ?_); refine ⟨rfl, by kernel_rfl, _, _, rfl, _, hrk, s_Op, ?_⟩; go_frame) | ((with_reducible refine (op_b hx _).mono ?_); rintro _ w1 ⟨rfl, hb⟩; replace H := H.call hb; clear hb))
                  go_ret
                  refine ⟨ret_bool ?_, H.below⟩
                  have : (rs.any fun x => !opB x.e.s0 x.e.s1 x.e.s2) = false := by
                    rw [List.any_eq_false]
                    intro x hx2
                    obtain ⟨i, hi, rfl⟩ := List.getElem_of_mem hx2
                    rw [HA.out i hi (by rw [H1.out]; exact hi)]
                    simp
                  rw [grM, d0, d1, d2, d3, d4, this]
                  rfl
      · have d3 := True.intro
        have d4 := True.intro
        have hx := True.intro
        have hrk := True.intro
        go_enter Tryd.func8, Tryd.ntmps8; go_wp2_with (first | ((with_reducible refine Hp.box H ?_); (first | refine ⟨rfl, [.pointer _], rfl, ?_⟩ | refine ⟨rfl, [.int _ _], rfl, ?_⟩ | refine ⟨rfl, [.slice _ _ _], rfl, ?_⟩ | refine ⟨rfl, [.bool _], rfl, ?_⟩ | refine ⟨rfl, [.string _], rfl, ?_⟩ | refine ⟨rfl, _, rfl, ?_⟩); (clear H; intro g1 w1 H); go_frame) | ((with_reducible refine Hp.ld H ?_); refine ⟨rfl, ?_⟩; refine ⟨c_look rfl, ?_⟩; refine ⟨_, _, rfl, ?_⟩; ((repeat ((fail_if_success refine ⟨_, _, _, .z, ?_⟩); refine hs ?_)); refine ⟨_, _, _, .z, ?_⟩); refine ⟨_, rfl, ?_⟩; go_frame) | ((with_reducible refine Hp.lda H ?_); refine ⟨rfl, by kernel_rfl, ?_⟩; refine ⟨_, s_look rfl, ?_⟩; refine ⟨_, rfl, ?_⟩; ((repeat ((fail_if_success refine ⟨_, _, _, .z, ?_⟩); refine hs ?_)); refine ⟨_, _, _, .z, ?_⟩); refine ⟨rfl, ?_⟩; go_frame) | ((with_reducible refine Hp.lds H ?_); refine ⟨rfl, by kernel_rfl, ?_⟩; refine ⟨_, s_look rfl, ?_⟩; refine ⟨_, _, rfl, ?_⟩; ((repeat ((fail_if_success refine ⟨_, _, _, .z, ?_⟩); refine hs ?_)); refine ⟨_, _, _, .z, ?_⟩); (first | refine ⟨opC m.ok m.o0 m.o1 m.o2, rfl, rfl, ?_⟩ | refine ⟨opC m.e.ok m.e.s0 m.e.s1 m.e.s2, rfl, rfl, ?_⟩); go_frame) | ((with_reducible refine (op_b d3 _).mono ?_); rintro _ w1 ⟨rfl, hb⟩; replace H := H.call hb; clear hb) | ((with_reducible refine (op_b d4 _).mono ?_); rintro _ w1 ⟨rfl, hb⟩; replace H := H.call hb; clear hb) | ((with_reducible refine Hp.ldrO H ?_); refine ⟨rfl, by kernel_rfl, _, _, rfl, _, hrk, s_Op, ?_⟩; go_frame) | ((with_reducible refine (op_b hx _).mono ?_); rintro _ w1 ⟨rfl, hb⟩; replace H := H.call hb; clear hb))
        go_ret
        exact ⟨ret_bool (by rw [grM, d2]; simp), H.below⟩
    · have d3 := True.intro
      have d4 := True.intro
      have hx := True.intro
      have hrk := True.intro
      go_enter Tryd.func8, Tryd.ntmps8; go_wp2_with (first | ((with_reducible refine Hp.box H ?_); (first | refine ⟨rfl, [.pointer _], rfl, ?_⟩ | refine ⟨rfl, [.int _ _], rfl, ?_⟩ | refine ⟨rfl, [.slice _ _ _], rfl, ?_⟩ | refine ⟨rfl, [.bool _], rfl, ?_⟩ | refine ⟨rfl, [.string _], rfl, ?_⟩ | refine ⟨rfl, _, rfl, ?_⟩); (clear H; intro g1 w1 H); go_frame) | ((with_reducible refine Hp.ld H ?_); refine ⟨rfl, ?_⟩; refine ⟨c_look rfl, ?_⟩; refine ⟨_, _, rfl, ?_⟩; ((repeat ((fail_if_success refine ⟨_, _, _, .z, ?_⟩); refine hs ?_)); refine ⟨_, _, _, .z, ?_⟩); refine ⟨_, rfl, ?_⟩; go_frame) | ((with_reducible refine Hp.lda H ?_); refine ⟨rfl, by kernel_rfl, ?_⟩; refine ⟨_, s_look rfl, ?_⟩; refine ⟨_, rfl, ?_⟩; ((repeat ((fail_if_success refine ⟨_, _, _, .z, ?_⟩); refine hs ?_)); refine ⟨_, _, _, .z, ?_⟩); refine ⟨rfl, ?_⟩; go_frame) | ((with_reducible refine Hp.lds H ?_); refine ⟨rfl, by kernel_rfl, ?_⟩; refine ⟨_, s_look rfl, ?_⟩; refine ⟨_, _, rfl, ?_⟩; ((repeat ((fail_if_success refine ⟨_, _, _, .z, ?_⟩); refine hs ?_)); refine ⟨_, _, _, .z, ?_⟩); (first | refine ⟨opC m.ok m.o0 m.o1 m.o2, rfl, rfl, ?_⟩ | refine ⟨opC m.e.ok m.e.s0 m.e.s1 m.e.s2, rfl, rfl, ?_⟩); go_frame) | ((with_reducible refine (op_b d3 _).mono ?_); rintro _ w1 ⟨rfl, hb⟩; replace H := H.call hb; clear hb) | ((with_reducible refine (op_b d4 _).mono ?_); rintro _ w1 ⟨rfl, hb⟩; replace H := H.call hb; clear hb) | ((with_reducible refine Hp.ldrO H ?_); refine ⟨rfl, by kernel_rfl, _, _, rfl, _, hrk, s_Op, ?_⟩; go_frame) | ((with_reducible refine (op_b hx _).mono ?_); rintro _ w1 ⟨rfl, hb⟩; replace H := H.call hb; clear hb))
      go_ret
      exact ⟨ret_bool (by rw [grM, d1]; simp), H.below⟩
  · have d3 := True.intro
    have d4 := True.intro
    have hx := True.intro
    have hrk := True.intro
    go_enter Tryd.func8, Tryd.ntmps8; go_wp2_with (first | ((with_reducible refine Hp.box H ?_); (first | refine ⟨rfl, [.pointer _], rfl, ?_⟩ | refine ⟨rfl, [.int _ _], rfl, ?_⟩ | refine ⟨rfl, [.slice _ _ _], rfl, ?_⟩ | refine ⟨rfl, [.bool _], rfl, ?_⟩ | refine ⟨rfl, [.string _], rfl, ?_⟩ | refine ⟨rfl, _, rfl, ?_⟩); (clear H; intro g1 w1 H); go_frame) | ((with_reducible refine Hp.ld H ?_); refine ⟨rfl, ?_⟩; refine ⟨c_look rfl, ?_⟩; refine ⟨_, _, rfl, ?_⟩; ((repeat ((fail_if_success refine ⟨_, _, _, .z, ?_⟩); refine hs ?_)); refine ⟨_, _, _, .z, ?_⟩); refine ⟨_, rfl, ?_⟩; go_frame) | ((with_reducible refine Hp.lda H ?_); refine ⟨rfl, by kernel_rfl, ?_⟩; refine ⟨_, s_look rfl, ?_⟩; refine ⟨_, rfl, ?_⟩; ((repeat ((fail_if_success refine ⟨_, _, _, .z, ?_⟩); refine hs ?_)); refine ⟨_, _, _, .z, ?_⟩); refine ⟨rfl, ?_⟩; go_frame) | ((with_reducible refine Hp.lds H ?_); refine ⟨rfl, by kernel_rfl, ?_⟩; refine ⟨_, s_look rfl, ?_⟩; refine ⟨_, _, rfl, ?_⟩; ((repeat ((fail_if_success refine ⟨_, _, _, .z, ?_⟩); refine hs ?_)); refine ⟨_, _, _, .z, ?_⟩); (first | refine ⟨opC m.ok m.o0 m.o1 m.o2, rfl, rfl, ?_⟩ | refine ⟨opC m.e.ok m.e.s0 m.e.s1 m.e.s2, rfl, rfl, ?_⟩); go_frame) | ((with_reducible refine (op_b d3 _).mono ?_); rintro _ w1 ⟨rfl, hb⟩; replace H := H.call hb; clear hb) | ((with_reducible refine (op_b d4 _).mono ?_); rintro _ w1 ⟨rfl, hb⟩; replace H := H.call hb; clear hb) | ((with_reducible refine Hp.ldrO H ?_); refine ⟨rfl, by kernel_rfl, _, _, rfl, _, hrk, s_Op, ?_⟩; go_frame) | ((with_reducible refine (op_b hx _).mono ?_); rintro _ w1 ⟨rfl, hb⟩; replace H := H.call hb; clear hb))
    go_ret
    exact ⟨ret_bool (by rw [grM, d0]; rfl), H.below⟩
end Go.Proofs.YtiieakndjheknaaDoor
