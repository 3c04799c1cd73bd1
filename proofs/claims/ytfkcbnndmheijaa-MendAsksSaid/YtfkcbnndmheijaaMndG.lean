/-
  mend.Answer and the reference's, at every input.
-/
import Derived.Test.YtfkcbnndmheijaaMndF
namespace Go.Proofs.Ytfkcbnndmheijaa
open Go.RowKit
set_option linter.unusedVariables false
/-- a message's cells; its bytes stand apart -/
def mgD (m : Mg) (A : Option Addr) (n c : Nat) : List Value := [.int .u8 m.k, .int .i64 m.fr, .int .i64 m.to, .int .i64 m.br, .int .i64 m.bp, .int .i64 m.ix, .int .i64 m.cm, .int .i64 m.nc, .int .i64 m.ck, .int .i64 m.ct, .int .i64 m.sq,
  .int .u8 m.e.k, .int .i64 m.e.c, .int .i64 m.e.s, .int .u8 m.e.ok, .string m.e.s0, .string m.e.s1, .string m.e.s2, .int .u8 m.ok, .string m.o0, .string m.o1, .string m.o2, .int .i64 m.re, .bool m.rf, .string m.rv, .slice m.rA m.rn m.rc, .slice A n c]
def kI (x : Hv) (m : Mg) : Int := whichI x.sn m.k m.ix m.ck
def ansB (x : Hv) (m : Mg) : Bool := if decide (0 ≤ kI x m) then x.wh else goesB x m
def ansM (x : Hv) (m : Mg) : Mg := if decide (0 ≤ kI x m) then (if x.wh then chunkM x m (kI x m) none 0 0 else mg0) else if goesB x m then chosenM x m else mg0
def ansL (x : Hv) (m : Mg) (l : List UInt8) : List UInt8 := if decide (0 ≤ kI x m) && x.wh then l else []
/-- a message with bytes of the call's own; whether -/
def RetAn (w0 : World) (M : Mg) (l : List UInt8) (ok : Bool) (e : Ending) (w' : World) : Prop := ∃ A c, e = .returned (.tuple #[.agg (mgD M A l.length c).toArray, .bool ok]) ∧ Own w' w0.heap.size A c l ∧ Below w0.heap.size w0 w'
theorem goes_true {x : Hv} {m : Mg} (h : goesB x m = true) : ((m.k == 10) = true ∨ ((m.k == 10) = false ∧ (m.k == 14) = true)) ∧ decide (x.sn < m.ix) = true ∧ decide (m.ix ≤ x.ap) = true ∧ (x.r.st == 2) = true ∧ (x.r.ix == m.ix) = true := by
  simp only [goesB, chosB, wholeB, Bool.and_eq_true, Bool.or_eq_true] at h
  obtain ⟨⟨h1, h2, h3⟩, h4, h5⟩ := h
  refine ⟨?_, h2, h3, h4, h5⟩
  cases h6 : m.k == 10
  · rw [h6] at h1
    exact .inr ⟨rfl, by simpa using h1⟩
  · exact .inl rfl
theorem ans_any (x : Hv) (m : Mg) (l : List UInt8) (w : World) (hn : x.cn = l.length) (hr : Rd w x.cA l) (hl : l.length ≤ 140737488355328) :
    Calls Try.prog 18 #[.agg (hvC x).toArray, .agg (mgC m).toArray] w (RetAn w (ansM x m) (ansL x m l) (ansB x m)) := by
  cases h0 : decide (0 ≤ kI x m)
  · have h0' : decide (kI x m < 0) = true := by
      have := of_decide_eq_false h0
      exact decide_eq_true (by omega)
    cases hg : goesB x m
    · refine (ans_none2 x m _ w rfl h0 h0' hg).mono ?_
      rintro e w' ⟨rfl, hb⟩
      refine ⟨none, 0, ?_, ?_, hb⟩
      · rw [ansM, ansL, ansB, h0, hg]; rfl
      · rw [ansL, h0]; exact Own.none_ _ _
    · obtain ⟨hm, h3, h4, h5, h6⟩ := goes_true hg
      refine (ans_chosen x m _ w rfl h0 h0' hm h3 h4 h5 h6).mono ?_
      rintro e w' ⟨rfl, hb⟩
      refine ⟨none, 0, ?_, ?_, hb⟩
      · rw [ansM, ansL, ansB, h0, hg]; rfl
      · rw [ansL, h0]; exact Own.none_ _ _
  · have h0' : decide (kI x m < 0) = false := by
      have := of_decide_eq_true h0
      exact decide_eq_false (by omega)
    cases hw : x.wh
    · refine (ans_none1 x m _ w rfl h0 h0' hw).mono ?_
      rintro e w' ⟨rfl, hb⟩
      refine ⟨none, 0, ?_, ?_, hb⟩
      · rw [ansM, ansL, ansB, h0, hw]; rfl
      · rw [ansL, h0, hw]; exact Own.none_ _ _
    · refine (ans_chunk x m l _ w rfl h0 hw hn hr hl).mono ?_
      rintro e w' ⟨A, c, rfl, ho, hb⟩
      refine ⟨A, c, ?_, ?_, hb⟩
      · rw [ansM, ansL, ansB, h0, hw]; rfl
      · rw [ansL, h0, hw]; exact ho
theorem rans_any (x : Hv) (m : Mg) (l : List UInt8) (w : World) (hn : x.cn = l.length) (hr : Rd w x.cA l) (hl : l.length ≤ 140737488355328) :
    Calls Try.prog 19 #[.agg (hvC x).toArray, .agg (mgC m).toArray] w (RetAn w (ansM x m) (ansL x m l) (ansB x m)) := by
  cases h0 : decide (0 ≤ kI x m)
  · have h0' : decide (kI x m < 0) = true := by
      have := of_decide_eq_false h0
      exact decide_eq_true (by omega)
    cases hg : goesB x m
    · refine (rans_none2 x m _ w rfl h0 h0' hg).mono ?_
      rintro e w' ⟨rfl, hb⟩
      refine ⟨none, 0, ?_, ?_, hb⟩
      · rw [ansM, ansL, ansB, h0, hg]; rfl
      · rw [ansL, h0]; exact Own.none_ _ _
    · obtain ⟨hm, h3, h4, h5, h6⟩ := goes_true hg
      refine (rans_chosen x m _ w rfl h0 h0' hm h3 h4 h5 h6).mono ?_
      rintro e w' ⟨rfl, hb⟩
      refine ⟨none, 0, ?_, ?_, hb⟩
      · rw [ansM, ansL, ansB, h0, hg]; rfl
      · rw [ansL, h0]; exact Own.none_ _ _
  · have h0' : decide (kI x m < 0) = false := by
      have := of_decide_eq_true h0
      exact decide_eq_false (by omega)
    cases hw : x.wh
    · refine (rans_none1 x m _ w rfl h0 h0' hw).mono ?_
      rintro e w' ⟨rfl, hb⟩
      refine ⟨none, 0, ?_, ?_, hb⟩
      · rw [ansM, ansL, ansB, h0, hw]; rfl
      · rw [ansL, h0, hw]; exact Own.none_ _ _
    · refine (rans_chunk x m l _ w rfl h0 hw hn hr hl).mono ?_
      rintro e w' ⟨A, c, rfl, ho, hb⟩
      refine ⟨A, c, ?_, ?_, hb⟩
      · rw [ansM, ansL, ansB, h0, hw]; rfl
      · rw [ansL, h0, hw]; exact ho
theorem ansM_rn (x : Hv) (m : Mg) : (ansM x m).rn = 0 := by
  unfold ansM
  cases decide (0 ≤ kI x m) <;> cases x.wh <;> cases goesB x m <;> rfl
theorem ansL_le (x : Hv) (m : Mg) (l : List UInt8) : (ansL x m l).length ≤ l.length := by
  unfold ansL
  split <;> simp
end Go.Proofs.Ytfkcbnndmheijaa
