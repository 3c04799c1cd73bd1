/-
  PLAIN: what a message that may be has in its fields. No program in sight.
-/
import Derived.Test.YtajgikjmoeemnaaDoorMsgV
namespace Go.Proofs.YtajgikjmoeemnaaDoor
set_option maxRecDepth 100000
set_option linter.unusedVariables false
set_option linter.unusedSimpArgs false
theorem num0 {x : Int} (h : numB x 0 = true) : 0 ≤ x ∧ x ≤ 1099511627776 := by simpa [numB] using h
theorem num1 {x : Int} (h : numB x 1 = true) : 0 ≤ x ∧ x ≤ 1099511627776 := by
  have : 1 ≤ x ∧ x ≤ 1099511627776 := by simpa [numB] using h
  omega
theorem zero_in {x : Int} (h : x = 0) : 0 ≤ x ∧ x ≤ 1099511627776 := by omega
section
variable {m : Mg} {rs : List Rp} {l : List UInt8} {n : Int}
theorem may_keep (h : mayM m rs l n = true) {k : Int} (hk : m.k = k) (c : UInt8) (hc : c ∈ lets k) : keepB c.toNat m rs n = true := by
  subst hk
  exact (may_parts h).2.2.2.1 c hc
theorem may_bare (h : mayM m rs l n = true) {k : Int} (hk : m.k = k) : nrm (keepL (lets k) (bare0 m) m) = nrm m := by
  subst hk
  exact (sameM_iff.1 (may_parts h).2.2.2.2).1
theorem may_nums (h : mayM m rs l n = true) : (0 ≤ m.ix ∧ m.ix ≤ 1099511627776) ∧ (0 ≤ m.cm ∧ m.cm ≤ 1099511627776) ∧ (0 ≤ m.nc ∧ m.nc ≤ 1099511627776) ∧ (0 ≤ m.sq ∧ m.sq ≤ 1099511627776) := by
  rcases kinds (may_parts h).1 with hk | hk | hk | hk | hk | hk | hk | hk | hk | hk | hk | hk | hk | hk | hk
  all_goals
    have hb := may_bare h hk
    refine ⟨?_, ?_, ?_, ?_⟩
    · first
      | exact num1 (may_keep h hk 105 (by decide))
      | exact num0 (may_keep h hk 122 (by decide))
      | exact zero_in (congrArg Mg.ix hb).symm
    · first
      | exact num0 (may_keep h hk 99 (by decide))
      | exact zero_in (congrArg Mg.cm hb).symm
    · first
      | exact num0 (may_keep h hk 110 (by decide))
      | exact zero_in (congrArg Mg.nc hb).symm
    · first
      | exact num1 (may_keep h hk 115 (by decide))
      | exact zero_in (congrArg Mg.sq hb).symm
/-- the kinds with a ballot -/
def hasB (k : Int) : Bool := (98 : UInt8) ∈ lets k
theorem may_bal (h : mayM m rs l n = true) (hb : hasB m.k = true) : balM m.br m.bp n = true := by
  simp only [hasB, decide_eq_true_eq] at hb
  exact may_keep h rfl 98 hb
theorem may_nobal (h : mayM m rs l n = true) (hb : hasB m.k = false) : m.br = 0 ∧ m.bp = 0 := by
  rcases kinds (may_parts h).1 with hk | hk | hk | hk | hk | hk | hk | hk | hk | hk | hk | hk | hk | hk | hk
  all_goals
    have hn := may_bare h hk
    rw [hk] at hb
    first
    | exact absurd hb (by decide)
    | exact ⟨(congrArg Mg.br hn).symm, (congrArg Mg.bp hn).symm⟩
theorem may_op (h : mayM m rs l n = true) (hk : m.k = 1) : m.o0.size ≤ 255 ∧ m.o1.size ≤ 255 ∧ m.o2.size ≤ 255 := by
  have h1 : (decide ((m.o0.size : Int) ≤ 16) && (decide ((m.o1.size : Int) ≤ 16) && decide ((m.o2.size : Int) ≤ 16))) = true := may_keep h hk 111 (by decide)
  simp only [Bool.and_eq_true, decide_eq_true_eq] at h1
  omega
theorem may_reply (h : mayM m rs l n = true) (hk : m.k = 2) : 0 ≤ m.re ∧ m.re < 65536 ∧ m.rv.size ≤ 255 := by
  have h1 : (decide (0 ≤ m.re) && (decide (m.re ≤ 999) && decide ((m.rv.size : Int) ≤ 16))) = true := may_keep h hk 114 (by decide)
  simp only [Bool.and_eq_true, decide_eq_true_eq] at h1
  omega
theorem reps_all : ∀ (b : Int) (rs : List Rp) (n : Int), repsOk b rs n = true → ∀ x ∈ rs, repB x n = true
  | b, [], n, h => by simp
  | b, x :: l, n, h => by
    simp only [repsOk, Bool.and_eq_true] at h
    intro y hy
    rcases List.mem_cons.1 hy with rfl | hy
    · exact h.1.1
    · exact reps_all _ l n h.2 y hy
theorem may_rs (h : mayM m rs l n = true) (hk : m.k = 4) : ∀ x ∈ rs, repB x n = true := by
  have h1 : repsB rs n = true := may_keep h hk 108 (by decide)
  simp only [repsB, Bool.and_eq_true] at h1
  exact reps_all _ _ _ h1.1
theorem may_ck (h : mayM m rs l n = true) (hk : m.k = 12 ∨ m.k = 13 ∨ m.k = 15) : 0 ≤ m.ck ∧ m.ck < 8 := by
  have h1 : (decide (0 ≤ m.ck) && decide (m.ck < 8)) = true := by
    rcases hk with hk | hk | hk
    all_goals exact may_keep h hk 107 (by decide)
  simpa using h1
theorem may_ct (h : mayM m rs l n = true) (hk : m.k = 13) : 0 ≤ m.ct ∧ m.ct ≤ 8 := by
  have h0 := may_ck h (.inr (.inl hk))
  have h1 : (decide (m.ck < m.ct) && decide (m.ct ≤ 8)) = true := may_keep h hk 109 (by decide)
  simp only [Bool.and_eq_true, decide_eq_true_eq] at h1
  omega
theorem may_by (h : mayM m rs l n = true) (hk : m.k = 13) (hR : m.yn = l.length) : 1 ≤ l.length ∧ l.length ≤ 80 := by
  have h1 : (decide (1 ≤ (m.yn : Int)) && decide ((m.yn : Int) ≤ 80)) = true := may_keep h hk 121 (by decide)
  simp only [Bool.and_eq_true, decide_eq_true_eq] at h1
  omega
end
end Go.Proofs.YtajgikjmoeemnaaDoor
