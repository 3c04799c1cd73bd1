/-
  PLAIN: what the reference's reading of an entry comes to, way by way. No program in sight.
-/
import Derived.Test.YtajgikjmoeemnaaDoorPk5
import Derived.Test.YtajgikjmoeemnaaDoorPk2
namespace Go.Proofs.YtajgikjmoeemnaaDoor
set_option maxRecDepth 100000
set_option linter.unusedVariables false
theorem er_byte {l : List UInt8} {k : Nat} (hk : k < l.length) : rdK l k = (l[k].toNat : Int) ∧ r1 l k = ⟨((k + 1 : Nat) : Int), false⟩ := by
  have h0 : getE l k 1 = 0 := by
    unfold getE
    rw [if_neg (by simp [isWidth]), if_neg (by omega), if_neg (by omega)]
  have hb : gB l ⟨k, false⟩ 1 = false := by unfold gB; rw [h0]; rfl
  refine ⟨?_, ?_⟩
  · unfold rdK gN
    rw [hb]
    exact getN_byte l k hk
  · unfold r1 gR
    rw [hb]
    unfold getP
    rw [h0]
    rfl
theorem tR_bad {l : List UInt8} {r : Rs} (h : r.bad = true) : (tR l r).bad = true := by
  have : tB l r = true := by unfold tB; rw [h]; rfl
  unfold tR
  rw [this]
  rfl
theorem er_bad {l : List UInt8} {k : Nat} (hk : k ≤ l.length) (h : ((mR l k).bad || !mayB (mEn l k)) = true) : erE l k = 90 ∧ erN l k = 0 ∧ erV l k = en0 := by
  obtain ⟨e1, e2, e3⟩ := er_cases (l := l) (a := (k : Int)) (by omega) (by omega)
  rw [if_pos h] at e1 e2 e3
  exact ⟨e1, e2, e3⟩
theorem er_good {l : List UInt8} {k : Nat} (hk : k ≤ l.length) (h : ((mR l k).bad || !mayB (mEn l k)) = false) : erE l k = 0 ∧ erN l k = (mR l k).at_ ∧ erV l k = mEn l k := by
  obtain ⟨e1, e2, e3⟩ := er_cases (l := l) (a := (k : Int)) (by omega) (by omega)
  rw [if_neg (by rw [h]; decide)] at e1 e2 e3
  exact ⟨e1, e2, e3⟩
theorem er_one {l : List UInt8} {k : Nat} (hk : k < l.length) (h : l[k].toNat = 1) : erE l k = 0 ∧ erN l k = (k : Int) + 1 ∧ erV l k = ⟨1, 0, 0, 0, .empty, .empty, .empty⟩ := by
  obtain ⟨h1, h2⟩ := er_byte hk
  have hE : mEn l k = noop := by unfold mEn; rw [h1, h, if_neg (by decide)]; rfl
  have hR : mR l k = ⟨((k + 1 : Nat) : Int), false⟩ := by unfold mR; rw [h1, h, if_neg (by decide)]; exact h2
  have hm : mayB noop = true := by unfold mayB isNoop noop; rw [show mtB .empty = true from by rw [mtB, empty_toList]; rfl]; rfl
  obtain ⟨g1, g2, g3⟩ := er_good (l := l) (k := k) (by omega) (by rw [hE, hR, hm]; rfl)
  exact ⟨g1, by rw [g2, hR]; rfl, by rw [g3, hE]; rfl⟩
theorem er_other {l : List UInt8} {k : Nat} (hk : k < l.length) (h1 : l[k].toNat ≠ 1) (h2 : l[k].toNat ≠ 2) : erE l k = 90 ∧ erN l k = 0 ∧ erV l k = en0 := by
  obtain ⟨g1, g2⟩ := er_byte hk
  have hE : mEn l k = ⟨rdK l k, 0, 0, 0, .empty, .empty, .empty⟩ := by unfold mEn; rw [if_neg (by rw [g1]; omega)]
  have hm : mayB (mEn l k) = false := by
    cases hm : mayB (mEn l k)
    · rfl
    · rw [hE] at hm
      rcases may_pos hm with h | h
      · have : rdK l k = 1 := h
        omega
      · have : rdK l k = 2 := h
        omega
  exact er_bad (by omega) (by rw [hm]; simp)
theorem er_few {l : List UInt8} {k : Nat} (hk : k < l.length) (h2 : l[k].toNat = 2) (h : l.length < k + 9) : erE l k = 90 ∧ erN l k = 0 ∧ erV l k = en0 := by
  obtain ⟨g1, g2⟩ := er_byte hk
  have hR : mR l k = r7 l k := by unfold mR; rw [if_pos (by rw [g1, h2]; rfl)]
  have h4 : (r4 l k).bad = true := by
    cases hb : (r4 l k).bad
    · exfalso
      obtain ⟨b3, t3, u3, v3⟩ := gR_ok (show (gR l (r3 l k) 1).bad = false from hb)
      obtain ⟨b2, t2, u2, v2⟩ := gR_ok (show (gR l (r2 l k) 6).bad = false from b3)
      obtain ⟨b1, t1, u1, v1⟩ := gR_ok (show (gR l (r1 l k) 1).bad = false from b2)
      have a2 : (r2 l k).at_ = (k : Int) + 1 + 1 := by
        have : r2 l k = _ := v1
        rw [this, g2]
        rfl
      have a3 : (r3 l k).at_ = (k : Int) + 1 + 1 + 6 := by
        have : r3 l k = _ := v2
        rw [this, a2]
      rw [a3] at t3
      have := getE_zero t3
      omega
    · rfl
  have h7 : (r7 l k).bad = true := tR_bad (tR_bad (tR_bad h4))
  exact er_bad (by omega) (by rw [hR, h7]; rfl)
theorem er_many {l : List UInt8} {k : Nat} (hk : k + 9 ≤ l.length) (h2 : (l[k]'(by omega)).toNat = 2) :
    mR l k = tR l (tR l (tR l ⟨((k + 9 : Nat) : Int), false⟩)) ∧
    mEn l k = ⟨2, ((l[k + 1]'(by omega)).toNat : Int), getN l ((k : Int) + 2) 6, ((l[k + 8]'(by omega)).toNat : Int), bs (tS l ⟨((k + 9 : Nat) : Int), false⟩), bs (tS l (tR l ⟨((k + 9 : Nat) : Int), false⟩)), bs (tS l (tR l (tR l ⟨((k + 9 : Nat) : Int), false⟩)))⟩ := by
  obtain ⟨g1, g2⟩ := er_byte (l := l) (k := k) (by omega)
  have hK : rdK l k = 2 := by rw [g1, h2]; rfl
  have step : ∀ (a : Nat) (w : Nat), isWidth w = true → a + w ≤ l.length → gN l ⟨(a : Int), false⟩ w = getN l a w ∧ gR l ⟨(a : Int), false⟩ w = ⟨((a + w : Nat) : Int), false⟩ := by
    intro a w hw hl
    have h0 : getE l a w = 0 := by
      unfold getE
      rw [if_neg (by simp [hw]), if_neg (by omega), if_neg (by omega)]
    have hb : gB l ⟨a, false⟩ w = false := by unfold gB; rw [h0]; rfl
    unfold gN gR getP
    rw [hb, h0]
    exact ⟨rfl, rfl⟩
  obtain ⟨s1, s2⟩ := step (k + 1) 1 (by decide) (by omega)
  obtain ⟨s3, s4⟩ := step (k + 1 + 1) 6 (by decide) (by omega)
  obtain ⟨s5, s6⟩ := step (k + 1 + 1 + 6) 1 (by decide) (by omega)
  have q2 : r2 l k = ⟨((k + 1 + 1 : Nat) : Int), false⟩ := by unfold r2; rw [g2]; exact s2
  have q3 : r3 l k = ⟨((k + 1 + 1 + 6 : Nat) : Int), false⟩ := by unfold r3; rw [q2]; exact s4
  have q4 : r4 l k = ⟨((k + 9 : Nat) : Int), false⟩ := by unfold r4; rw [q3]; exact s6
  refine ⟨?_, ?_⟩
  · unfold mR r7 r6 r5
    rw [if_pos hK, q4]
  · unfold mEn r6 r5
    rw [if_pos hK, q4, g2, q2, q3]
    have e1 : gN l ⟨((k + 1 : Nat) : Int), false⟩ 1 = ((l[k + 1]'(by omega)).toNat : Int) := by
      rw [show (1 : Int) = ((1 : Nat) : Int) from rfl, s1]
      exact getN_byte l (k + 1) (by omega)
    have e2 : gN l ⟨((k + 1 + 1 : Nat) : Int), false⟩ 6 = getN l ((k : Int) + 2) 6 := by
      rw [show (6 : Int) = ((6 : Nat) : Int) from rfl, s3]
      rfl
    have e3 : gN l ⟨((k + 1 + 1 + 6 : Nat) : Int), false⟩ 1 = ((l[k + 8]'(by omega)).toNat : Int) := by
      rw [show (1 : Int) = ((1 : Nat) : Int) from rfl, s5]
      exact getN_byte l (k + 8) (by omega)
    rw [e1, e2, e3]
theorem tR_no {l : List UInt8} {P : Int} (h : readE l P ≠ 0) : (tR l ⟨P, false⟩).bad = true := by
  have : tB l ⟨P, false⟩ = true := by unfold tB; simp [h]
  unfold tR
  rw [this]
  rfl
theorem tR_yes {l : List UInt8} {P : Int} (h : readE l P = 0) : tR l ⟨P, false⟩ = ⟨readP l P, false⟩ ∧ tS l ⟨P, false⟩ = readS l P := by
  have : tB l ⟨P, false⟩ = false := by unfold tB; simp [h]
  unfold tR tS
  rw [this]
  exact ⟨rfl, rfl⟩
end Go.Proofs.YtajgikjmoeemnaaDoor
