/-
  PLAIN: a frame is good just if it is what is sealed of its own tag and body.
-/
import Derived.Test.YtahfippapknolaaDoorFramePlainB
namespace Go.Proofs.YtahfippapknolaaDoor

theorem fr_body_len {l : List UInt8} (h : 21 + frN l ≤ l.length) : ((l.drop 17).take (frN l)).length = frN l := by simp; omega
theorem pre_take {l : List UInt8} (h : 21 + frN l ≤ l.length) (hN : frN l < 65536) : preL (frT l) ((l.drop 17).take (frN l)) = l.take (17 + frN l) := by
  have e := fr_body_len h
  unfold preL
  rw [e, putL_two (by omega) (by omega), Int.toNat_natCast]
  have e2 : leB 2 (frN l) = l.take 2 := leB_leN_n (l := l.take 2) (n := 2) (by simp; omega)
  have e3 : frT l ++ (l.drop 17).take (frN l) = (l.drop 2).take (15 + frN l) := by
    unfold frT
    rw [List.take_add, List.drop_drop]
  have e4 : l.take 2 ++ (l.drop 2).take (15 + frN l) = l.take (17 + frN l) := by
    rw [← List.take_add]
    congr 1
    omega
  rw [e2, e3, e4]
theorem seal_iff {l : List UInt8} (h : 21 + frN l ≤ l.length) (hN : frN l < 65536) : (frmL l.length (frT l) ((l.drop 17).take (frN l)) = l) ↔ (leN (l.drop (l.length - 4)) = sum (l.take (l.length - 4)) ∧ zeroB (frMid l) = true) := by
  have hp := pre_take h hN
  have hlast : (l.drop (l.length - 4)).length = 4 := by simp; omega
  have hml : (frMid l).length = l.length - 4 - (17 + frN l) := by simp [frMid]; omega
  have hsplit : l.take (17 + frN l) ++ frMid l = l.take (l.length - 4) := by
    unfold frMid
    rw [← List.take_add, show 17 + frN l + (l.length - 4 - (17 + frN l)) = l.length - 4 by omega]
  have ht : (l.take (17 + frN l)).length = 17 + frN l := by simp; omega
  have hpad : padL (l.length - 4) (l.take (17 + frN l)) = l.take (17 + frN l) ++ List.replicate (l.length - 4 - (17 + frN l)) 0 := by
    unfold padL
    rw [ht]
  have hpl : (padL (l.length - 4) (l.take (17 + frN l))).length = l.length - 4 := by rw [padL_length _ _ (by rw [ht]; omega)]
  have hsl := sum_lt (padL (l.length - 4) (l.take (17 + frN l)))
  have hall : l.take (l.length - 4) ++ l.drop (l.length - 4) = l := List.take_append_drop _ _
  unfold frmL
  rw [hp]
  constructor
  · intro e
    obtain ⟨h1, h2⟩ := List.append_inj (e.trans hall.symm) (by rw [hpl]; simp)
    refine ⟨?_, ?_⟩
    · rw [← h2, ← h1, putL_four (by omega) (by omega), Int.toNat_natCast, leN_leB, Nat.mod_eq_of_lt (by simpa using hsl)]
    · rw [hpad, ← hsplit] at h1
      rw [← List.append_cancel_left h1]
      exact zeroB_replicate _
  · rintro ⟨h1, h2⟩
    have e1 : padL (l.length - 4) (l.take (17 + frN l)) = l.take (l.length - 4) := by
      have := zeroB_rep h2
      rw [hml] at this
      rw [hpad, ← hsplit, ← this]
    rw [e1, ← h1, putL_four (by omega) (by have := leN_lt (l.drop (l.length - 4)); rw [hlast] at this; omega), Int.toNat_natCast, leB_leN_n hlast, hall]
/-- in a frame's own words -/
theorem seal_own {l : List UInt8} (h0 : okLen l = true) (ht : tagB (frT l) = true) (hn : frN l ≤ frRoom l) (hz : zeroB l = false) :
    (frmL l.length (tagL (getN (frT l) 0 1) (getN (frT l) 1 1) (getN (frT l) 2 1) (getN (frT l) 3 6) (getN (frT l) 9 6)) ((l.drop 17).take (frN l)) = l) ↔ frG l = true := by
  have hN : frN l < 65536 := leN_take_lt l 0 2
  have hl : 21 + frN l ≤ l.length := by
    rcases okLen_cases h0 with e | e
    · simp [frRoom, e] at hn; omega
    · simp [frRoom, e] at hn; omega
  rw [(tag_print_parse ht).2, seal_iff hl hN]
  simp [frG, h0, hz, ht, hn, frSum]
end Go.Proofs.YtahfippapknolaaDoor
