/-
  MESSAGES: their cells; reports; a message that came in.
-/
import Derived.Test.YtfkcbnndmheijaaTrE
namespace Go.Proofs.Ytfkcbnndmheijaa
open Go.ChangeShapes Go.WideShapes Go.ChangeAt Go.RowKit
set_option linter.unusedVariables false

structure Mg where
  k : Int
  fr : Int
  to : Int
  br : Int
  bp : Int
  ix : Int
  cm : Int
  nc : Int
  ck : Int
  ct : Int
  sq : Int
  e : En
  ok : Int
  o0 : ByteArray
  o1 : ByteArray
  o2 : ByteArray
  re : Int
  rf : Bool
  rv : ByteArray
  rA : Option Addr
  rn : Nat
  rc : Nat
  yA : Option Addr
  yn : Nat
  yc : Nat
def mgC (m : Mg) : List Value := [.int .u8 m.k, .int .i64 m.fr, .int .i64 m.to, .int .i64 m.br, .int .i64 m.bp, .int .i64 m.ix, .int .i64 m.cm, .int .i64 m.nc, .int .i64 m.ck, .int .i64 m.ct, .int .i64 m.sq,
  .int .u8 m.e.k, .int .i64 m.e.c, .int .i64 m.e.s, .int .u8 m.e.ok, .string m.e.s0, .string m.e.s1, .string m.e.s2, .int .u8 m.ok, .string m.o0, .string m.o1, .string m.o2, .int .i64 m.re, .bool m.rf, .string m.rv, .slice m.rA m.rn m.rc, .slice m.yA m.yn m.yc]
def mg0 : Mg := ⟨0, 0, 0, 0, 0, 0, 0, 0, 0, 0, 0, en0, 0, .empty, .empty, .empty, 0, false, .empty, none, 0, 0, none, 0, 0⟩
structure Rp where
  ix : Int
  st : Int
  r : Int
  p : Int
  e : En
def rpC (x : Rp) : List Value := [.int .i64 x.ix, .int .u8 x.st, .int .i64 x.r, .int .i64 x.p, .int .u8 x.e.k, .int .i64 x.e.c, .int .i64 x.e.s, .int .u8 x.e.ok, .string x.e.s0, .string x.e.s1, .string x.e.s2]
def rp0 : Rp := ⟨0, 0, 0, 0, en0⟩
/-- int64 -/
def I64 (n : Int) : Prop := -9223372036854775808 ≤ n ∧ n ≤ 9223372036854775807
def RpOk (x : Rp) : Prop := I64 x.ix ∧ (0 ≤ x.st ∧ x.st < 256) ∧ I64 x.r ∧ I64 x.p ∧ Sm x.e ∧ U8 x.e ∧ I64 x.e.c ∧ I64 x.e.s
/-- a slice that reads as these reports -/
def RRp (w : World) (A : Option Addr) (rs : List Rp) : Prop := rs ≠ [] → ∃ b o, A = some ⟨b, o, none⟩ ∧ ∀ (i : Nat) (h : i < rs.length), w.rangeAt b (o + i * 11) (rpC rs[i])
/-- the numbers and texts of a message are such as there are -/
def MgN (m : Mg) : Prop := (0 ≤ m.k ∧ m.k < 256) ∧ I64 m.fr ∧ I64 m.to ∧ I64 m.br ∧ I64 m.bp ∧ I64 m.ix ∧ I64 m.cm ∧ I64 m.nc ∧ I64 m.ck ∧ I64 m.ct ∧ I64 m.sq ∧ Sm m.e ∧ U8 m.e ∧ I64 m.e.c ∧ I64 m.e.s ∧ (0 ≤ m.ok ∧ m.ok < 256) ∧ m.o0.size ≤ maxLen ∧ m.o1.size ≤ maxLen ∧ m.o2.size ≤ maxLen ∧ I64 m.re ∧ m.rv.size ≤ maxLen
/-- a message that reads as these reports, these bytes -/
def MgR (w : World) (m : Mg) (rs : List Rp) (l : List UInt8) : Prop := m.rn = rs.length ∧ RRp w m.rA rs ∧ (∀ x ∈ rs, RpOk x) ∧ m.rn ≤ m.rc ∧ m.rc ≤ maxLen ∧ m.yn = l.length ∧ Rd w m.yA l ∧ m.yn ≤ m.yc ∧ m.yc ≤ maxLen
theorem RRp.below {w w' : World} {A : Option Addr} {rs : List Rp} (h : RRp w A rs) (hb : Below w.heap.size w w') : RRp w' A rs := by
  intro hn
  obtain ⟨b, o, e, hc⟩ := h hn
  exact ⟨b, o, e, fun i hi j v hj => (hb.cell (World.block_lt_of_cell? w _ (hc i hi j v hj))).trans (hc i hi j v hj)⟩
theorem MgR.below {w w' : World} {m : Mg} {rs : List Rp} {l : List UInt8} (h : MgR w m rs l) (hb : Below w.heap.size w w') : MgR w' m rs l := ⟨h.1, h.2.1.below hb, h.2.2.1, h.2.2.2.1, h.2.2.2.2.1, h.2.2.2.2.2.1, h.2.2.2.2.2.2.1.below hb, h.2.2.2.2.2.2.2⟩
theorem list11 {α : Type} {l : List α} (h : l.length = 11) : ∃ x0 x1 x2 x3 x4 x5 x6 x7 x8 x9 x10, l = [x0, x1, x2, x3, x4, x5, x6, x7, x8, x9, x10] := by
  match l, h with
  | [x0, x1, x2, x3, x4, x5, x6, x7, x8, x9, x10], _ => exact ⟨x0, x1, x2, x3, x4, x5, x6, x7, x8, x9, x10, rfl⟩
theorem list27 {α : Type} {l : List α} (h : l.length = 27) : ∃ x0 x1 x2 x3 x4 x5 x6 x7 x8 x9 x10 x11 x12 x13 x14 x15 x16 x17 x18 x19 x20 x21 x22 x23 x24 x25 x26, l = [x0, x1, x2, x3, x4, x5, x6, x7, x8, x9, x10, x11, x12, x13, x14, x15, x16, x17, x18, x19, x20, x21, x22, x23, x24, x25, x26] := by
  match l, h with
  | [x0, x1, x2, x3, x4, x5, x6, x7, x8, x9, x10, x11, x12, x13, x14, x15, x16, x17, x18, x19, x20, x21, x22, x23, x24, x25, x26], _ => exact ⟨x0, x1, x2, x3, x4, x5, x6, x7, x8, x9, x10, x11, x12, x13, x14, x15, x16, x17, x18, x19, x20, x21, x22, x23, x24, x25, x26, rfl⟩
section
variable {H : Type} {enc : TypeId × Value → H} {w : World} {base : Nat}
theorem Tr.i64' {c : Value} (h : Tr enc Try.prog w base 3 [c]) : ∃ n : Int, c = .int .i64 n ∧ I64 n := by
  obtain ⟨n, h1, h2, h3⟩ := h.i64 Try.underlying3
  exact ⟨n, h1, h2, h3⟩
theorem Tr.u8' {c : Value} (h : Tr enc Try.prog w base 5 [c]) : ∃ n : Int, c = .int .u8 n ∧ 0 ≤ n ∧ n < 256 := by
  obtain ⟨n, h1, h2⟩ := h.uint rfl Try.underlying5
  simp only [IntKind.bits] at h2
  exact ⟨n, h1, by omega, by omega⟩
theorem Tr.entry' {cs : List Value} (h : Tr enc Try.prog w base 38 cs) (hl : cs.length = 7) : ∃ e : En, cs = enC e ∧ Sm e ∧ U8 e ∧ I64 e.c ∧ I64 e.s := by
  obtain ⟨e, rfl, h1, h2⟩ := h.entry hl
  have k1 : Tr enc Try.prog w base 3 [.int .i64 e.c] := h.field Try.underlying38 1 rfl 1 (by kernel_rfl)
  have k2 : Tr enc Try.prog w base 3 [.int .i64 e.s] := h.field Try.underlying38 2 rfl 1 (by kernel_rfl)
  obtain ⟨n, e1, g1⟩ := k1.i64'
  obtain ⟨n', e2, g2⟩ := k2.i64'
  injection e1 with _ e1
  injection e2 with _ e2
  subst e1 e2
  exact ⟨e, rfl, h1, h2, g1, g2⟩
theorem Tr.report {cs : List Value} (h : Tr enc Try.prog w base 47 cs) (hl : cs.length = 11) : ∃ x : Rp, cs = rpC x ∧ RpOk x := by
  obtain ⟨x0, x1, x2, x3, x4, x5, x6, x7, x8, x9, x10, rfl⟩ := list11 hl
  have h0 : Tr enc Try.prog w base 3 [x0] := h.field Try.underlying47 0 rfl 1 (by kernel_rfl)
  have h1 : Tr enc Try.prog w base 5 [x1] := h.field Try.underlying47 1 rfl 1 (by kernel_rfl)
  have h2 : Tr enc Try.prog w base 34 [x2, x3] := h.field Try.underlying47 2 rfl 2 (by kernel_rfl)
  have h3 : Tr enc Try.prog w base 38 [x4, x5, x6, x7, x8, x9, x10] := h.field Try.underlying47 3 rfl 7 (by kernel_rfl)
  have h4 : Tr enc Try.prog w base 3 [x2] := h2.field Try.underlying34 0 rfl 1 (by kernel_rfl)
  have h5 : Tr enc Try.prog w base 3 [x3] := h2.field Try.underlying34 1 rfl 1 (by kernel_rfl)
  obtain ⟨ix, rfl, g0⟩ := h0.i64'
  obtain ⟨st, rfl, g1⟩ := h1.u8'
  obtain ⟨r, rfl, g2⟩ := h4.i64'
  obtain ⟨p, rfl, g3⟩ := h5.i64'
  obtain ⟨e, he, g4, g5, g6, g7⟩ := h3.entry' rfl
  have hcs : [.int .i64 ix, .int .u8 st, .int .i64 r, .int .i64 p, x4, x5, x6, x7, x8, x9, x10] = rpC ⟨ix, st, r, p, e⟩ := by
    show [.int .i64 ix, .int .u8 st, .int .i64 r, .int .i64 p] ++ [x4, x5, x6, x7, x8, x9, x10] = _
    rw [he]
    rfl
  exact ⟨⟨ix, st, r, p, e⟩, hcs, g0, g1, g2, g3, g4, g5, g6, g7⟩
theorem Tr.reports {c : Value} (h : Tr enc Try.prog w base 42 [c]) :
    ∃ (A : Option Addr) (cap : Nat) (rs : List Rp), c = .slice A rs.length cap ∧ RRp w A rs ∧ (∀ x ∈ rs, RpOk x) ∧ rs.length ≤ cap ∧ cap ≤ maxLen := by
  obtain ⟨A, n, cap, rfl, hl, hm, hg⟩ := h.slice Try.underlying42 11 (by kernel_rfl)
  by_cases h0 : n = 0
  · subst h0
    exact ⟨A, cap, [], rfl, fun h => absurd rfl h, (by simp), hl, hm⟩
  · obtain ⟨a, rfl, hg2⟩ := hg (by omega)
    have hx : ∀ i, ∃ x : Rp, i < n → ((∀ j, j < 11 → w.cell? (a.add (i * 11 + j)) = (rpC x)[j]?) ∧ RpOk x) := by
      intro i
      by_cases hi : i < n
      · obtain ⟨cs, hcl, hcc, htr⟩ := hg2 i hi
        obtain ⟨e, rfl, h1⟩ := htr.report hcl
        exact ⟨e, fun _ => ⟨hcc, h1⟩⟩
      · exact ⟨rp0, fun h => absurd h hi⟩
    obtain ⟨f, hx'⟩ : ∃ f : Nat → Rp, ∀ i, i < n → ((∀ j, j < 11 → w.cell? (a.add (i * 11 + j)) = (rpC (f i))[j]?) ∧ RpOk (f i)) := ⟨fun i => Classical.choose (hx i), fun i => Classical.choose_spec (hx i)⟩
    refine ⟨some a, cap, (List.range n).map f, by simp, ?_, ?_, by simpa using hl, hm⟩
    · intro _
      obtain ⟨b, o, spot⟩ := a
      have h1 := (hx' 0 (by omega)).1 0 (by omega)
      have hspot : spot = none := by
        have h2 : w.cell? (Addr.add ⟨b, o, spot⟩ (0 * 11 + 0)) = some (.int .i64 (f 0).ix) := h1
        simpa [Addr.add] using World.cell?_spot h2
      subst hspot
      refine ⟨b, o, rfl, fun i hi => ?_⟩
      have hi' : i < n := by simpa using hi
      intro j v hj
      have h7 : j < 11 := by
        have := (List.getElem?_eq_some_iff.1 hj).1
        exact this
      have := (hx' i hi').1 j h7
      rw [Addr.add_lit] at this
      rw [Nat.add_assoc, this]
      simpa using hj
    · intro e he
      obtain ⟨i, hi, rfl⟩ := List.mem_map.1 he
      exact (hx' i (by simpa using hi)).2
theorem Tr.msg {cs : List Value} (h : Tr enc Try.prog w base 45 cs) (hl : cs.length = 27) : ∃ (m : Mg) (rs : List Rp) (l : List UInt8), cs = mgC m ∧ MgN m ∧ MgR w m rs l := by
  obtain ⟨x0, x1, x2, x3, x4, x5, x6, x7, x8, x9, x10, x11, x12, x13, x14, x15, x16, x17, x18, x19, x20, x21, x22, x23, x24, x25, x26, rfl⟩ := list27 hl
  have f0 : Tr enc Try.prog w base 5 [x0] := h.field Try.underlying45 0 rfl 1 (by kernel_rfl)
  have f1 : Tr enc Try.prog w base 3 [x1] := h.field Try.underlying45 1 rfl 1 (by kernel_rfl)
  have f2 : Tr enc Try.prog w base 3 [x2] := h.field Try.underlying45 2 rfl 1 (by kernel_rfl)
  have f3 : Tr enc Try.prog w base 34 [x3, x4] := h.field Try.underlying45 3 rfl 2 (by kernel_rfl)
  have f4 : Tr enc Try.prog w base 3 [x5] := h.field Try.underlying45 4 rfl 1 (by kernel_rfl)
  have f5 : Tr enc Try.prog w base 3 [x6] := h.field Try.underlying45 5 rfl 1 (by kernel_rfl)
  have f6 : Tr enc Try.prog w base 3 [x7] := h.field Try.underlying45 6 rfl 1 (by kernel_rfl)
  have f7 : Tr enc Try.prog w base 3 [x8] := h.field Try.underlying45 7 rfl 1 (by kernel_rfl)
  have f8 : Tr enc Try.prog w base 3 [x9] := h.field Try.underlying45 8 rfl 1 (by kernel_rfl)
  have f9 : Tr enc Try.prog w base 3 [x10] := h.field Try.underlying45 9 rfl 1 (by kernel_rfl)
  have f10 : Tr enc Try.prog w base 38 [x11, x12, x13, x14, x15, x16, x17] := h.field Try.underlying45 10 rfl 7 (by kernel_rfl)
  have f11 : Tr enc Try.prog w base 36 [x18, x19, x20, x21] := h.field Try.underlying45 11 rfl 4 (by kernel_rfl)
  have f12 : Tr enc Try.prog w base 41 [x22, x23, x24] := h.field Try.underlying45 12 rfl 3 (by kernel_rfl)
  have f13 : Tr enc Try.prog w base 42 [x25] := h.field Try.underlying45 13 rfl 1 (by kernel_rfl)
  have f14 : Tr enc Try.prog w base 43 [x26] := h.field Try.underlying45 14 rfl 1 (by kernel_rfl)
  have b0 : Tr enc Try.prog w base 3 [x3] := f3.field Try.underlying34 0 rfl 1 (by kernel_rfl)
  have b1 : Tr enc Try.prog w base 3 [x4] := f3.field Try.underlying34 1 rfl 1 (by kernel_rfl)
  have o0 : Tr enc Try.prog w base 5 [x18] := f11.field Try.underlying36 0 rfl 1 (by kernel_rfl)
  have o1 : Tr enc Try.prog w base 9 [x19] := f11.field Try.underlying36 1 rfl 1 (by kernel_rfl)
  have o2 : Tr enc Try.prog w base 9 [x20] := f11.field Try.underlying36 2 rfl 1 (by kernel_rfl)
  have o3 : Tr enc Try.prog w base 9 [x21] := f11.field Try.underlying36 3 rfl 1 (by kernel_rfl)
  have r0 : Tr enc Try.prog w base 39 [x22] := f12.field Try.underlying41 0 rfl 1 (by kernel_rfl)
  have r1 : Tr enc Try.prog w base 4 [x23] := f12.field Try.underlying41 1 rfl 1 (by kernel_rfl)
  have r2 : Tr enc Try.prog w base 9 [x24] := f12.field Try.underlying41 2 rfl 1 (by kernel_rfl)
  obtain ⟨k, rfl, g0⟩ := f0.u8'
  obtain ⟨fr, rfl, g1⟩ := f1.i64'
  obtain ⟨to, rfl, g2⟩ := f2.i64'
  obtain ⟨br, rfl, g3⟩ := b0.i64'
  obtain ⟨bp, rfl, g4⟩ := b1.i64'
  obtain ⟨ix, rfl, g5⟩ := f4.i64'
  obtain ⟨cm, rfl, g6⟩ := f5.i64'
  obtain ⟨nc, rfl, g7⟩ := f6.i64'
  obtain ⟨ck, rfl, g8⟩ := f7.i64'
  obtain ⟨ct, rfl, g9⟩ := f8.i64'
  obtain ⟨sq, rfl, g10⟩ := f9.i64'
  obtain ⟨e, he, g11, g12, g13, g14⟩ := f10.entry' rfl
  obtain ⟨ok, rfl, g15⟩ := o0.u8'
  obtain ⟨p0, rfl, g16⟩ := o1.str Try.underlying9
  obtain ⟨p1, rfl, g17⟩ := o2.str Try.underlying9
  obtain ⟨p2, rfl, g18⟩ := o3.str Try.underlying9
  obtain ⟨re, rfl, g19, g20⟩ := r0.i64 Try.underlying39
  obtain ⟨rf, rfl⟩ := r1.bool Try.underlying4
  obtain ⟨rv, rfl, g21⟩ := r2.str Try.underlying9
  obtain ⟨rA, rc, rs, rfl, q0, q1, q2, q3⟩ := f13.reports
  obtain ⟨yA, yc, l, rfl, q4, q5, q6⟩ := f14.bytes Try.underlying43 Try.underlying5 (by kernel_rfl)
  have hcs : [.int .u8 k, .int .i64 fr, .int .i64 to, .int .i64 br, .int .i64 bp, .int .i64 ix, .int .i64 cm, .int .i64 nc, .int .i64 ck, .int .i64 ct, .int .i64 sq, x11, x12, x13, x14, x15, x16, x17, .int .u8 ok, .string p0, .string p1, .string p2, .int .i64 re, .bool rf, .string rv, .slice rA rs.length rc, .slice yA l.length yc] =
      mgC ⟨k, fr, to, br, bp, ix, cm, nc, ck, ct, sq, e, ok, p0, p1, p2, re, rf, rv, rA, rs.length, rc, yA, l.length, yc⟩ := by
    show [.int .u8 k, .int .i64 fr, .int .i64 to, .int .i64 br, .int .i64 bp, .int .i64 ix, .int .i64 cm, .int .i64 nc, .int .i64 ck, .int .i64 ct, .int .i64 sq] ++ ([x11, x12, x13, x14, x15, x16, x17] ++ [.int .u8 ok, .string p0, .string p1, .string p2, .int .i64 re, .bool rf, .string rv, .slice rA rs.length rc, .slice yA l.length yc]) = _
    rw [he]
    rfl
  exact ⟨_, rs, l, hcs, ⟨g0, g1, g2, g3, g4, g5, g6, g7, g8, g9, g10, g11, g12, g13, g14, g15, g16, g17, g18, ⟨g19, g20⟩, g21⟩, ⟨rfl, q0, q1, q2, q3, rfl, q4, q5, q6⟩⟩
end
end Go.Proofs.Ytfkcbnndmheijaa
