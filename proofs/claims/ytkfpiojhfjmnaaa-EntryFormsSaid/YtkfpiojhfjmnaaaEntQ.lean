/-
  PLAIN: bodies: what is printed is parsed as it was, and the other way; cut, and with more behind. No program in sight.
-/
import Derived.Test.YtkfpiojhfjmnaaaEntE
namespace Go.Proofs.Ytkfpiojhfjmnaaa
set_option linter.unusedVariables false

theorem bal_bd {r p : Int} (h : balB r p = true) : 1 ≤ r ∧ r ≤ 1099511627776 ∧ 0 ≤ p ∧ p < 7 := by
  simp only [balB, Bool.and_eq_true, decide_eq_true_eq] at h
  exact h
theorem bodyL_ok {r p : Int} {e : En} (hb : balB r p = true) (hm : mayB e = true) : bodyL r p e = putL 6 r ++ (putL 1 p ++ entL e) := by unfold bodyL; rw [hb, hm]; rfl
theorem bodyE_ok {r p : Int} {e : En} (hb : balB r p = true) (hm : mayB e = true) : bodyE r p e = 0 := by unfold bodyE; rw [hb, hm]; rfl
theorem bodyL_no {r p : Int} {e : En} (h : (balB r p && mayB e) = false) : bodyL r p e = [] := by unfold bodyL; rw [h]; rfl
theorem bodyE_no {r p : Int} {e : En} (h : (balB r p && mayB e) = false) : bodyE r p e = 2 := by unfold bodyE; rw [h]; rfl
theorem paE_cases (l : List UInt8) : paE l = 0 ∨ paE l = 90 := by unfold paE; split <;> simp
theorem entL_len {e : En} (hm : mayB e = true) : 1 ≤ (entL e).length ∧ (entL e).length ≤ 52 := by
  rcases may_bd hm with rfl | ⟨hk, h1, h2, h3, h4, h5, h6, h7, h8, h9, h10⟩
  · have : (entL noop).length = 1 := by decide
    omega
  · unfold entL
    rw [if_pos hk, hk, textL_ok (by rw [size_len]; omega), textL_ok (by rw [size_len]; omega), textL_ok (by rw [size_len]; omega)]
    simp only [List.length_append, List.length_cons, size_len, putL_len (fits1 (n := 2) (by omega) (by omega)), putL_len (fits1 h1 (by omega)), putL_len (fits6 (n := e.s) (by omega) (by omega)), putL_len (fits1 (n := e.ok) (by omega) (by omega))]
    omega
theorem bodyL_len {r p : Int} {e : En} (hb : balB r p = true) (hm : mayB e = true) : 8 ≤ (bodyL r p e).length ∧ (bodyL r p e).length ≤ 59 := by
  have h := entL_len hm
  obtain ⟨b1, b2, b3, b4⟩ := bal_bd hb
  rw [bodyL_ok hb hm]
  simp only [List.length_append, putL_len (fits6 (n := r) (by omega) (by omega)), putL_len (fits1 (n := p) b3 (by omega))]
  omega
theorem pa_state {r p : Int} {e : En} (hb : balB r p = true) (hm : mayB e = true) (c : List UInt8) :
    paR (bodyL r p e ++ c) = r ∧ paP (bodyL r p e ++ c) = p ∧ (q2 (bodyL r p e ++ c)).bad = false ∧ erE (bodyL r p e ++ c) (q2 (bodyL r p e ++ c)).at_ = 0 ∧ erV (bodyL r p e ++ c) (q2 (bodyL r p e ++ c)).at_ = e ∧ erN (bodyL r p e ++ c) (q2 (bodyL r p e ++ c)).at_ = (bodyL r p e).length := by
  obtain ⟨b1, b2, b3, b4⟩ := bal_bd hb
  have f6 : fitsB 6 r = true := fits6 (by omega) (by omega)
  have f1 : fitsB 1 p = true := fits1 b3 (by omega)
  generalize hl : bodyL r p e ++ c = l
  have h0 : l = [] ++ (putL 6 r ++ (putL 1 p ++ (entL e ++ c))) := by rw [← hl, bodyL_ok hb hm]; simp
  have h1 : l = putL 6 r ++ (putL 1 p ++ (entL e ++ c)) := h0
  have h2 : l = (putL 6 r ++ putL 1 p) ++ (entL e ++ c) := by rw [h1, List.append_assoc]
  obtain ⟨g1, g2⟩ := gN_put [] (putL 1 p ++ (entL e ++ c)) 6 r f6
  rw [← h0] at g1 g2
  have k1 : paR l = r := g1
  have k2 : q1 l = ⟨(putL 6 r).length, false⟩ := g2
  obtain ⟨g3, g4⟩ := gN_put (putL 6 r) (entL e ++ c) 1 p f1
  rw [← h1] at g3 g4
  have k3 : paP l = p := by unfold paP; rw [k2]; exact g3
  have k4 : q2 l = ⟨(putL 6 r ++ putL 1 p).length, false⟩ := by unfold q2; rw [k2]; exact g4
  obtain ⟨e1, e2, e3⟩ := er_put hm (putL 6 r ++ putL 1 p) c
  rw [← h2] at e1 e2 e3
  rw [k4]
  refine ⟨k1, k3, rfl, e1, e2, ?_⟩
  show erN l ((putL 6 r ++ putL 1 p).length : Nat) = _
  rw [e3, bodyL_ok hb hm]
  simp
theorem pa_more {r p : Int} {e : En} (hb : balB r p = true) (hm : mayB e = true) (c : List UInt8) : paE (bodyL r p e ++ c) = if c = [] then 0 else 90 := by
  obtain ⟨h1, h2, h3, h4, h5, h6⟩ := pa_state hb hm c
  unfold paE
  rw [h1, h2, h3, h4, h6, hb]
  cases c with
  | nil => simp
  | cons x c =>
    rw [if_pos (by simp; omega), if_neg (by simp)]
theorem pa_print {r p : Int} {e : En} (hb : balB r p = true) (hm : mayB e = true) : paE (bodyL r p e) = 0 ∧ paBR (bodyL r p e) = r ∧ paBP (bodyL r p e) = p ∧ paV (bodyL r p e) = e := by
  obtain ⟨h1, h2, h3, h4, h5, h6⟩ := pa_state hb hm []
  have h0 := pa_more hb hm []
  rw [List.append_nil] at h0 h1 h2 h3 h4 h5 h6
  rw [if_pos rfl] at h0
  refine ⟨h0, ?_, ?_, ?_⟩
  · unfold paBR; rw [h0, if_pos rfl, h1]
  · unfold paBP; rw [h0, if_pos rfl, h2]
  · unfold paV; rw [h0, if_pos rfl, h5]
theorem pa_get {l : List UInt8} (h : paE l = 0) : balB (paBR l) (paBP l) = true ∧ mayB (paV l) = true ∧ bodyL (paBR l) (paBP l) (paV l) = l := by
  have h' := h
  unfold paE at h'
  split at h'
  · omega
  rename_i hn
  simp only [Bool.or_eq_true, not_or, Bool.not_eq_true, bne_eq_false_iff_eq, decide_eq_false_iff_not, Bool.not_eq_false'] at hn
  obtain ⟨hq, he, hlt, hb⟩ := hn
  have hbr : paBR l = paR l := by unfold paBR; rw [h, if_pos rfl]
  have hbp : paBP l = paP l := by unfold paBP; rw [h, if_pos rfl]
  have hv : paV l = erV l (q2 l).at_ := by unfold paV; rw [h, if_pos rfl]
  rw [hbr, hbp, hv]
  obtain ⟨b1, t1, u1, v1⟩ := gR_ok (show (gR l (q1 l) 1).bad = false from hq)
  obtain ⟨_, t0, u0, v0⟩ := gR_ok (show (gR l ⟨0, false⟩ 6).bad = false from b1)
  have v0 : q1 l = ⟨((6 : Nat) : Int), false⟩ := v0
  rw [v0] at t1 u1 v1
  have v1 : q2 l = ⟨((7 : Nat) : Int), false⟩ := by unfold q2; rw [v0]; exact v1
  rw [v1] at he hlt ⊢
  obtain ⟨hm, A, N, hA, hN, hlt2, hle, hL⟩ := er_get he
  obtain rfl : A = 7 := by simp only at hA; omega
  have hNl : N = l.length := by
    rw [show erN l (⟨((7 : Nat) : Int), false⟩ : Rs).at_ = N from hN] at hlt
    omega
  refine ⟨hb, hm, ?_⟩
  rw [bodyL_ok hb hm, hL]
  obtain ⟨p0, _⟩ := put_get (l := l) (a := 0) (w := 6) (by simpa using t0)
  obtain ⟨p1, _⟩ := put_get (l := l) (a := 6) (w := 1) (by simpa using t1)
  have e0 : paR l = getN l ((0 : Nat) : Int) ((6 : Nat) : Int) := u0
  have e1 : paP l = getN l ((6 : Nat) : Int) ((1 : Nat) : Int) := by unfold paP; rw [v0]; exact u1
  rw [e0, e1]
  have p0 : putL 6 (getN l ((0 : Nat) : Int) ((6 : Nat) : Int)) = seg l 0 (0 + 6) := p0
  have p1 : putL 1 (getN l ((6 : Nat) : Int) ((1 : Nat) : Int)) = seg l 6 (6 + 1) := p1
  rw [p0, p1, seg_append l (by omega) (by omega), seg_append l (by omega) (by omega), hNl]
  unfold seg
  simp
theorem pa_cut {r p : Int} {e : En} (hb : balB r p = true) (hm : mayB e = true) {k : Nat} (hk : k < (bodyL r p e).length) : paE ((bodyL r p e).take k) = 90 := by
  rcases paE_cases ((bodyL r p e).take k) with h | h
  · exfalso
    obtain ⟨h1, h2, h3⟩ := pa_get h
    have h4 := pa_more h1 h2 ((bodyL r p e).drop k)
    rw [h3, List.take_append_drop, if_neg (by intro e0; have := congrArg List.length e0; simp at this; omega), (pa_print hb hm).1] at h4
    omega
  · exact h
theorem pa_no {l : List UInt8} (h : paE l = 90) : paBR l = 0 ∧ paBP l = 0 ∧ paV l = en0 := by
  unfold paBR paBP paV
  rw [h]
  exact ⟨rfl, rfl, rfl⟩
theorem may_sm {e : En} (h : mayB e = true) : Sm e ∧ U8 e := by
  rcases may_bd h with rfl | ⟨hk, h1, h2, h3, h4, h5, h6, h7, h8, h9, h10⟩
  · exact ⟨⟨Nat.zero_le _, Nat.zero_le _, Nat.zero_le _⟩, ⟨by decide, by decide, by decide, by decide⟩⟩
  · exact ⟨⟨by unfold maxLen; omega, by unfold maxLen; omega, by unfold maxLen; omega⟩, ⟨by omega, by omega, by omega, by omega⟩⟩
end Go.Proofs.Ytkfpiojhfjmnaaa
