/-
  PLAIN: what bytes are: blank, good, bad.
-/
import Derived.Test.YtahfippapknolaaDoorFramePlain
import Derived.Test.YtahfippapknolaaDoorTrim
namespace Go.Proofs.YtahfippapknolaaDoor

/-- the tag's bytes; how long the body is said to be -/
def frT (l : List UInt8) : List UInt8 := (l.drop 2).take 15
def frN (l : List UInt8) : Nat := leN (l.take 2)
def okLen (l : List UInt8) : Bool := decide (l.length = 64) || decide (l.length = 128)
def frRoom (l : List UInt8) : Nat := if l.length = 64 then 43 else 88
def frSum (l : List UInt8) : Bool := decide (leN (l.drop (l.length - 4)) = sum (l.take (l.length - 4)))
def frMid (l : List UInt8) : List UInt8 := (l.drop (17 + frN l)).take (l.length - 4 - (17 + frN l))
/-- are bytes a good frame? -/
def frG (l : List UInt8) : Bool := okLen l && (!zeroB l && (tagB (frT l) && (decide (frN l ≤ frRoom l) && (frSum l && zeroB (frMid l)))))
def frS (l : List UInt8) : Int := if okLen l = false then 2 else if zeroB l then 0 else if frG l then 1 else 2
def frB (l : List UInt8) : List UInt8 := if frG l then (l.drop 17).take (frN l) else []
def frF (l : List UInt8) (o w : Int) : Int := if frG l then getN (frT l) o w else 0
/-- the tag that bytes bear -/
def frV (l : List UInt8) : Value := .agg #[.int .i64 (frF l 0 1), .int .i64 (frF l 1 1), .int .i64 (frF l 2 1), .int .i64 (frF l 3 6), .int .i64 (frF l 9 6)]
theorem frV_none {l : List UInt8} (h : frG l = false) : frV l = .agg #[.int .i64 0, .int .i64 0, .int .i64 0, .int .i64 0, .int .i64 0] ∧ frB l = [] := by
  simp [frV, frF, frB, h]
theorem frV_some {l : List UInt8} (h : frG l = true) : frV l = .agg #[.int .i64 (getN (frT l) 0 1), .int .i64 (getN (frT l) 1 1), .int .i64 (getN (frT l) 2 1), .int .i64 (getN (frT l) 3 6), .int .i64 (getN (frT l) 9 6)] ∧ frB l = (l.drop 17).take (frN l) := by
  simp [frV, frF, frB, h]
theorem frG_parts {l : List UInt8} (h : frG l = true) : okLen l = true ∧ zeroB l = false ∧ tagB (frT l) = true ∧ frN l ≤ frRoom l ∧ frSum l = true ∧ zeroB (frMid l) = true := by
  simp [frG] at h
  obtain ⟨a, b, c, d, e, f⟩ := h
  exact ⟨a, b, c, d, e, f⟩
theorem okLen_cases {l : List UInt8} (h : okLen l = true) : l.length = 64 ∨ l.length = 128 := by simpa [okLen] using h
theorem okLen_not {l : List UInt8} (h : okLen l = false) : l.length ≠ 64 ∧ l.length ≠ 128 := by simpa [okLen] using h

theorem leN_cons_two {a b : UInt8} : leN [a, b] = a.toNat + 256 * b.toNat := by simp [leN]

/-- a good frame, taken apart -/
theorem fr_apart {l : List UInt8} (h : 21 + frN l ≤ l.length) : l = l.take 2 ++ (frT l ++ ((l.drop 17).take (frN l) ++ (frMid l ++ l.drop (l.length - 4)))) := by
  have e1 : frMid l ++ l.drop (l.length - 4) = l.drop (17 + frN l) := by
    unfold frMid
    have := List.take_append_drop (l.length - 4 - (17 + frN l)) (l.drop (17 + frN l))
    rw [List.drop_drop, show 17 + frN l + (l.length - 4 - (17 + frN l)) = l.length - 4 by omega] at this
    exact this
  have e2 : (l.drop 17).take (frN l) ++ l.drop (17 + frN l) = l.drop 17 := by
    have := List.take_append_drop (frN l) (l.drop 17)
    rw [List.drop_drop] at this
    exact this
  have e3 : frT l ++ l.drop 17 = l.drop 2 := by
    unfold frT
    have := List.take_append_drop 15 (l.drop 2)
    rw [List.drop_drop] at this
    exact this
  rw [e1, e2, e3, List.take_append_drop]
theorem leB_leN_n {l : List UInt8} {n : Nat} (h : l.length = n) : leB n (leN l) = l := by subst h; exact leB_leN l
theorem zeroB_rep {l : List UInt8} (h : zeroB l = true) : l = List.replicate l.length 0 := by
  rw [zeroB_iff] at h
  apply List.ext_getElem
  · simp
  · intro i h1 h2
    rw [h i h1]; simp
theorem zeroB_replicate (n : Nat) : zeroB (List.replicate n (0 : UInt8)) = true := by simp [zeroB]
end Go.Proofs.YtahfippapknolaaDoor
