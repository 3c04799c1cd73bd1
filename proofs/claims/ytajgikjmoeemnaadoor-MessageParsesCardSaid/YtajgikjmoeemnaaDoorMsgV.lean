/-
  THE WALK OF message.Print.
-/
import Derived.Test.YtajgikjmoeemnaaDoorPk5
import Derived.Test.YtajgikjmoeemnaaDoorMsgI
namespace Go.Proofs.YtajgikjmoeemnaaDoor
set_option maxRecDepth 100000
open Go.RowKit
set_option linter.unusedVariables false
set_option linter.unusedSimpArgs false
def fieldsL (fs : List UInt8) (m : Mg) (rs : List Rp) (l : List UInt8) : List UInt8 := (fs.map fun c => fieldL c.toNat m rs l).flatten
def prL (m : Mg) (rs : List Rp) (l : List UInt8) : List UInt8 := ((putL 1 m.k ++ putL 1 (whoN m.fr)) ++ putL 1 (whoN m.to)) ++ fieldsL (lets m.k) m rs l
def printL (m : Mg) (rs : List Rp) (l : List UInt8) (n : Int) : List UInt8 := if mayM m rs l n then prL m rs l else []
def printE (m : Mg) (rs : List Rp) (l : List UInt8) (n : Int) : Int := if mayM m rs l n then 0 else 2
theorem may_parts {m : Mg} {rs : List Rp} {l : List UInt8} {n : Int} (h : mayM m rs l n = true) :
    kindB m.k = true ∧ crowdB n = true ∧ endsB m n = true ∧ (∀ c ∈ lets m.k, keepB c.toNat m rs n = true) ∧ sameM (bareM m) (bareR m rs) (bareY m l) m rs l = true := by
  simp only [mayM, Bool.and_eq_true, List.all_eq_true] at h
  exact h
theorem may_reps {m : Mg} {rs : List Rp} {l : List UInt8} {n : Int} (h : mayM m rs l n = true) : rs.length ≤ 24 := by
  obtain ⟨h1, h2, h3, h4, h5⟩ := may_parts h
  obtain ⟨_, e, _⟩ := sameM_iff.1 h5
  unfold bareR at e
  by_cases hk : m.k = 4
  · have := h4 108 (by rw [hk]; decide)
    have h6 : repsB rs n = true := this
    simp only [repsB, Bool.and_eq_true, decide_eq_true_eq] at h6
    exact h6.2
  · rw [if_neg hk] at e
    rw [← e]
    simp
theorem crowd_le {n : Int} (h : crowdB n = true) : n = 3 ∨ n = 5 ∨ n = 7 := by simpa [crowdB] using h
theorem may_ends {m : Mg} {rs : List Rp} {l : List UInt8} {n : Int} (h : mayM m rs l n = true) : (-4 ≤ m.fr ∧ m.fr ≤ 6) ∧ -4 ≤ m.to ∧ m.to ≤ 6 := by
  obtain ⟨h1, h2, h3, h4, h5⟩ := may_parts h
  have := crowd_le h2
  unfold endsB at h3
  split at h3
  · simp only [cliIx, repIx, Bool.and_eq_true, decide_eq_true_eq] at h3; omega
  · split at h3
    · simp only [cliIx, repIx, Bool.and_eq_true, decide_eq_true_eq] at h3; omega
    · simp only [cliIx, repIx, Bool.and_eq_true, decide_eq_true_eq] at h3; omega
theorem repsL_len (rs : List Rp) : (repsL rs).length ≤ 80 * rs.length := by
  induction rs with
  | nil => simp [repsL]
  | cons x l ih =>
    have := repL_len x
    unfold repsL at ih ⊢
    rw [List.map_cons, List.flatten_cons, List.length_append, List.length_cons]
    omega
theorem lets_len (k : Int) : (lets k).length ≤ 4 := by
  unfold lets
  split
  · rename_i h
    have : ∀ i : Fin 16, ((fld[i.val]?).getD []).length ≤ 4 := by decide +kernel
    exact this ⟨k.toNat, by omega⟩
  · simp
end Go.Proofs.YtajgikjmoeemnaaDoor
