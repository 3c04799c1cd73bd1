/-
  PLAIN: the document's reader finds what the reader finds. No program in sight.
-/
import Derived.Test.YtajgikjmoeemnaaDoorRdC
namespace Go.Proofs.YtajgikjmoeemnaaDoor
set_option maxRecDepth 100000
set_option linter.unusedVariables false
set_option linter.unusedSimpArgs false
theorem q_num {l : List UInt8} {N w : Nat} {e : Int} (h : (nS l ⟨N, e⟩ w).e = 0) : nS l ⟨N, e⟩ w = ⟨((N + w : Nat) : Int), 0⟩ ∧ rnP l ⟨N, false⟩ w = ⟨N + w, false⟩ ∧ nN l ⟨N, e⟩ w = (leN (rnV l ⟨N, false⟩ w) : Nat) := by
  have h0 := nS_e h
  obtain ⟨a1, a2, a3⟩ := nS_sound h
  refine ⟨a1, ?_, ?_⟩
  · unfold rnP okQ
    simp [a3]
  · have hg : getE l N w = 0 := by
      unfold nS at h
      split at h
      · assumption
      · rename_i h1; exact (fP_e h1 h).elim
    unfold nN getN rnV okQ
    simp only [hg, if_true]
    simp [a3]
theorem q_txt {l : List UInt8} {N : Nat} {e : Int} (h : (xP l ⟨N, e⟩).e = 0) : ∃ M : Nat, xP l ⟨N, e⟩ = ⟨M, 0⟩ ∧ xqP l ⟨N, false⟩ = ⟨M, false⟩ ∧ readS l N = xqV l ⟨N, false⟩ := by
  have h0 := xP_e h
  simp only at h0
  subst h0
  have hr : readE l N = 0 := by
    unfold xP at h
    split at h
    · assumption
    · rename_i h1; exact (fP_e h1 h).elim
  have hg : getE l N 1 = 0 := by
    unfold readE at hr
    split at hr
    · rename_i h1; exact absurd hr h1
    · rename_i h1; exact Classical.not_not.1 h1
  have hb : ¬ (l.length : Int) - (N + 1) < getN l N 1 := by
    unfold readE at hr
    rw [if_neg (by rw [hg]; simp)] at hr
    split at hr
    · omega
    · assumption
  obtain ⟨_, _, hl⟩ := getE_zero hg
  have hN : getN l N 1 = (leN (rnV l ⟨N, false⟩ 1) : Nat) := by
    have a : N + 1 ≤ l.length := by omega
    unfold getN rnV okQ
    simp only [hg, if_true]
    simp [a]
  obtain ⟨n, hn⟩ : ∃ n, leN (rnV l ⟨N, false⟩ 1) = n := ⟨_, rfl⟩
  have h1 : rnP l ⟨N, false⟩ 1 = ⟨N + 1, false⟩ := by
    have a : N + 1 ≤ l.length := by omega
    unfold rnP okQ
    simp [a]
  rw [hn] at hN
  have h2 : N + 1 + n ≤ l.length := by omega
  refine ⟨N + 1 + n, ?_, ?_, ?_⟩
  · unfold xP readP
    simp only [hr, if_true, hN]
    rfl
  · unfold xqP xqN
    rw [h1, hn]
    unfold rnP okQ
    simp [h2]
  · unfold xqV xqN
    rw [h1, hn]
    unfold readS rnV okQ
    simp only [hr, if_true, hN]
    simp [h2]
theorem q_ent {l : List UInt8} {N : Nat} {e : Int} (h : (eP l ⟨N, e⟩).e = 0) : ∃ M : Nat, eP l ⟨N, e⟩ = ⟨M, 0⟩ ∧ eqP l ⟨N, false⟩ = ⟨M, false⟩ ∧ eV l ⟨N, e⟩ = eqV l ⟨N, false⟩ := by
  have h0 := eP_e h
  simp only at h0
  subst h0
  have hr : erE l N = 0 := by
    unfold eP at h
    split at h
    · assumption
    · rename_i h1; exact (fP_e h1 h).elim
  refine ⟨(erN l N).toNat, ?_, ?_, rfl⟩
  · unfold eP
    simp only [hr, if_true]
    rw [← (erN_nat hr).1]
  · unfold eqP
    simp only [hr, if_true]
    rfl
def stB (x : Rp) : Prop := x.st = 2 ∨ x.st = 3 ∨ x.st = 4
theorem q_rep {l : List UInt8} {N : Nat} {e : Int} (h : (repP l ⟨N, e⟩).e = 0) (hs : stB (repV l ⟨N, e⟩)) : ∃ M : Nat, repP l ⟨N, e⟩ = ⟨M, 0⟩ ∧ qrepP l ⟨N, false⟩ = ⟨M, false⟩ ∧ repV l ⟨N, e⟩ = qrepV l ⟨N, false⟩ := by
  have h0 := rep_e h
  simp only at h0
  subst h0
  have h1 : (nS l ⟨N, 0⟩ 6).e = 0 := by
    unfold repP at h; simp only at h
    split at h
    · exact nS_e h
    · split at h
      · exact nS_e (nS_e (nS_e (eP_e h)))
      · exact nS_e (nS_e (nS_e h))
  obtain ⟨a1, a2, a3⟩ := q_num (w := 6) h1
  have a1 : nS l ⟨N, 0⟩ 6 = ⟨((N + 6 : Nat) : Int), 0⟩ := a1
  have h2 : (nS l ⟨((N + 6 : Nat) : Int), 0⟩ 1).e = 0 := by
    unfold repP at h; simp only [a1] at h
    split at h
    · exact h
    · split at h
      · exact nS_e (nS_e (eP_e h))
      · exact nS_e (nS_e h)
  obtain ⟨b1, b2, b3⟩ := q_num (w := 1) h2
  have b1 : nS l ⟨((N + 6 : Nat) : Int), 0⟩ 1 = ⟨((N + 6 + 1 : Nat) : Int), 0⟩ := b1
  have b3 : nN l ⟨((N + 6 : Nat) : Int), 0⟩ 1 = (leN (rnV l ⟨N + 6, false⟩ 1) : Nat) := b3
  have a3 : nN l ⟨N, 0⟩ 6 = (leN (rnV l ⟨N, false⟩ 6) : Nat) := a3
  obtain ⟨st, hst⟩ : ∃ st, leN (rnV l ⟨N + 6, false⟩ 1) = st := ⟨_, rfl⟩
  rw [hst] at b3
  unfold stB repV at hs
  unfold repP at h ⊢
  unfold repV qrepV qrepP
  simp only [a1, b1, a2, b2, a3, b3, hst] at h hs ⊢
  by_cases h4 : st = 4
  · subst h4
    exact ⟨_, rfl, rfl, rfl⟩
  · have h4i : ¬ (st : Int) = 4 := by omega
    simp only [if_neg h4i] at h ⊢
    have h5 : (nS l (nS l ⟨((N + 6 + 1 : Nat) : Int), 0⟩ 6) 1).e = 0 := by
      split at h
      · exact eP_e h
      · exact h
    obtain ⟨c1, c2, c3⟩ := q_num (w := 6) (nS_e h5)
    have c1 : nS l ⟨((N + 6 + 1 : Nat) : Int), 0⟩ 6 = ⟨((N + 6 + 1 + 6 : Nat) : Int), 0⟩ := c1
    have c3 : nN l ⟨((N + 6 + 1 : Nat) : Int), 0⟩ 6 = (leN (rnV l ⟨N + 6 + 1, false⟩ 6) : Nat) := c3
    rw [c1] at h5
    obtain ⟨d1, d2, d3⟩ := q_num (w := 1) h5
    have d1 : nS l ⟨((N + 6 + 1 + 6 : Nat) : Int), 0⟩ 1 = ⟨((N + 6 + 1 + 6 + 1 : Nat) : Int), 0⟩ := d1
    have d3 : nN l ⟨((N + 6 + 1 + 6 : Nat) : Int), 0⟩ 1 = (leN (rnV l ⟨N + 6 + 1 + 6, false⟩ 1) : Nat) := d3
    simp only [c1, d1, c2, d2, c3, d3] at h ⊢
    by_cases h2 : st = 2
    · subst h2
      have h : (eP l ⟨((N + 6 + 1 + 6 + 1 : Nat) : Int), 0⟩).e = 0 := h
      obtain ⟨M, m1, m2, m3⟩ := q_ent h
      refine ⟨M, ?_, ?_, ?_⟩
      · exact m1
      · exact m2
      · show (⟨_, 2, _, _, eV l ⟨((N + 6 + 1 + 6 + 1 : Nat) : Int), 0⟩⟩ : Rp) = _
        rw [m3]
        rfl
    · have h3 : st = 3 := by omega
      subst h3
      exact ⟨_, rfl, rfl, rfl⟩
theorem q_reps {l : List UInt8} : ∀ (k : Nat) {N : Nat} {e : Int}, (repsP l k ⟨N, e⟩).e = 0 → (∀ x ∈ repsV l k ⟨N, e⟩, stB x) → ∃ M : Nat, repsP l k ⟨N, e⟩ = ⟨M, 0⟩ ∧ qrepsP l k ⟨N, false⟩ = ⟨M, false⟩ ∧ repsV l k ⟨N, e⟩ = qrepsV l k ⟨N, false⟩
  | 0, N, e, h, hs => by
    have h : e = 0 := h
    subst h
    exact ⟨N, rfl, rfl, rfl⟩
  | k + 1, N, e, h, hs => by
    have h0 : e = 0 := reps_e (k + 1) h
    subst h0
    unfold repsP at h ⊢
    unfold repsV at hs ⊢
    unfold qrepsP qrepsV
    simp only [if_true] at h hs ⊢
    obtain ⟨M, m1, m2, m3⟩ := q_rep (reps_e k h) (hs _ List.mem_cons_self)
    rw [m1] at h hs ⊢
    rw [m2, m3]
    obtain ⟨P, p1, p2, p3⟩ := q_reps k h (fun x hx => hs x (List.mem_cons_of_mem _ hx))
    exact ⟨P, p1, p2, by rw [p3]⟩
def qof (x : St) : Sq := ⟨⟨x.s.at_.toNat, false⟩, x.t, x.rs, x.y⟩
def Nn (x : St) : Prop := ∃ N : Nat, x.s = ⟨N, 0⟩
theorem qof_mk (N : Nat) (e : Int) (t : Mg) (rs : List Rp) (y : List UInt8) : qof ⟨⟨(N : Int), e⟩, t, rs, y⟩ = ⟨⟨N, false⟩, t, rs, y⟩ := rfl
theorem q_fld {l : List UInt8} {c : Nat} {x : St} (hn : Nn x) (h : (fldP l c x).s.e = 0) (hs : c = 108 → ∀ r ∈ repsV l (nN l x.s 1).toNat (nS l x.s 1), stB r) : Nn (fldP l c x) ∧ qfld l c (qof x) = qof (fldP l c x) := by
  obtain ⟨s, t, rs, y⟩ := x
  obtain ⟨N, hN⟩ := hn
  simp only at hN hs
  subst hN
  rw [qof_mk]
  by_cases h115 : c = 115
  · subst h115
    obtain ⟨a1, a2, a3⟩ := q_num (w := 6) (show (nS l ⟨N, 0⟩ 6).e = 0 from h)
    refine ⟨⟨N + 6, a1⟩, ?_⟩
    show (⟨rnP l ⟨N, false⟩ 6, { t with sq := (leN (rnV l ⟨N, false⟩ 6) : Nat) }, rs, y⟩ : Sq) = qof ⟨nS l ⟨N, 0⟩ ((6 : Nat) : Int), { t with sq := nN l ⟨N, 0⟩ ((6 : Nat) : Int) }, rs, y⟩
    rw [a1, a2, a3, qof_mk]
  by_cases h111 : c = 111
  · subst h111
    have h : (xP l (xP l (xP l (nS l ⟨N, 0⟩ ((1 : Nat) : Int))))).e = 0 := h
    obtain ⟨a1, a2, a3⟩ := q_num (w := 1) (xP_e (xP_e (xP_e h)))
    rw [a1] at h
    obtain ⟨M1, b1, b2, b3⟩ := q_txt (xP_e (xP_e h))
    rw [b1] at h
    obtain ⟨M2, c1, c2, c3⟩ := q_txt (xP_e h)
    rw [c1] at h
    obtain ⟨M3, d1, d2, d3⟩ := q_txt h
    have hst : xP l (xP l (xP l (nS l ⟨N, 0⟩ ((1 : Nat) : Int)))) = ⟨M3, 0⟩ := by rw [a1, b1, c1, d1]
    refine ⟨⟨M3, hst⟩, ?_⟩
    show (⟨xqP l (xqP l (xqP l (rnP l ⟨N, false⟩ 1))), { t with ok := (leN (rnV l ⟨N, false⟩ 1) : Nat), o0 := bs (xqV l (rnP l ⟨N, false⟩ 1)), o1 := bs (xqV l (xqP l (rnP l ⟨N, false⟩ 1))), o2 := bs (xqV l (xqP l (xqP l (rnP l ⟨N, false⟩ 1)))) }, rs, y⟩ : Sq) =
      qof ⟨xP l (xP l (xP l (nS l ⟨N, 0⟩ ((1 : Nat) : Int)))), { t with ok := nN l ⟨N, 0⟩ ((1 : Nat) : Int), o0 := bs (readS l (nS l ⟨N, 0⟩ ((1 : Nat) : Int)).at_), o1 := bs (readS l (xP l (nS l ⟨N, 0⟩ ((1 : Nat) : Int))).at_), o2 := bs (readS l (xP l (xP l (nS l ⟨N, 0⟩ ((1 : Nat) : Int)))).at_) }, rs, y⟩
    rw [a1, b1, c1, d1, a2, b2, c2, d2, a3, qof_mk]
    show _ = (⟨⟨M3, false⟩, { t with ok := (leN (rnV l ⟨N, false⟩ 1) : Nat), o0 := bs (readS l ((N + 1 : Nat) : Int)), o1 := bs (readS l (M1 : Int)), o2 := bs (readS l (M2 : Int)) }, rs, y⟩ : Sq)
    rw [b3, c3, d3]
  by_cases h114 : c = 114
  · subst h114
    have h : (xP l (if 1 < nN l (nS l ⟨N, 0⟩ ((2 : Nat) : Int)) ((1 : Nat) : Int) then fP (nS l (nS l ⟨N, 0⟩ ((2 : Nat) : Int)) ((1 : Nat) : Int)) 200 else nS l (nS l ⟨N, 0⟩ ((2 : Nat) : Int)) ((1 : Nat) : Int))).e = 0 := h
    have hv : ¬ 1 < nN l (nS l ⟨N, 0⟩ ((2 : Nat) : Int)) ((1 : Nat) : Int) := fun hh => by rw [if_pos hh] at h; exact fP_e (by omega) (xP_e h)
    rw [if_neg hv] at h
    have hst0 : (if 1 < nN l (nS l ⟨N, 0⟩ ((2 : Nat) : Int)) ((1 : Nat) : Int) then fP (nS l (nS l ⟨N, 0⟩ ((2 : Nat) : Int)) ((1 : Nat) : Int)) 200 else nS l (nS l ⟨N, 0⟩ ((2 : Nat) : Int)) ((1 : Nat) : Int)) = nS l (nS l ⟨N, 0⟩ ((2 : Nat) : Int)) ((1 : Nat) : Int) := if_neg hv
    obtain ⟨a1, a2, a3⟩ := q_num (w := 2) (nS_e (xP_e h))
    rw [a1] at h
    obtain ⟨b1, b2, b3⟩ := q_num (w := 1) (xP_e h)
    rw [b1] at h
    obtain ⟨M, c1, c2, c3⟩ := q_txt h
    have hst : xP l (if 1 < nN l (nS l ⟨N, 0⟩ ((2 : Nat) : Int)) ((1 : Nat) : Int) then fP (nS l (nS l ⟨N, 0⟩ ((2 : Nat) : Int)) ((1 : Nat) : Int)) 200 else nS l (nS l ⟨N, 0⟩ ((2 : Nat) : Int)) ((1 : Nat) : Int)) = ⟨M, 0⟩ := by rw [hst0, a1, b1, c1]
    refine ⟨⟨M, hst⟩, ?_⟩
    show (⟨xqP l (rnP l (rnP l ⟨N, false⟩ 2) 1), { t with re := (leN (rnV l ⟨N, false⟩ 2) : Nat), rf := ((leN (rnV l (rnP l ⟨N, false⟩ 2) 1) : Nat) : Int) == 1, rv := bs (xqV l (rnP l (rnP l ⟨N, false⟩ 2) 1)) }, rs, y⟩ : Sq) =
      qof ⟨xP l (if 1 < nN l (nS l ⟨N, 0⟩ ((2 : Nat) : Int)) ((1 : Nat) : Int) then fP (nS l (nS l ⟨N, 0⟩ ((2 : Nat) : Int)) ((1 : Nat) : Int)) 200 else nS l (nS l ⟨N, 0⟩ ((2 : Nat) : Int)) ((1 : Nat) : Int)), { t with re := nN l ⟨N, 0⟩ ((2 : Nat) : Int), rf := nN l (nS l ⟨N, 0⟩ ((2 : Nat) : Int)) ((1 : Nat) : Int) == 1, rv := bs (readS l (if 1 < nN l (nS l ⟨N, 0⟩ ((2 : Nat) : Int)) ((1 : Nat) : Int) then fP (nS l (nS l ⟨N, 0⟩ ((2 : Nat) : Int)) ((1 : Nat) : Int)) 200 else nS l (nS l ⟨N, 0⟩ ((2 : Nat) : Int)) ((1 : Nat) : Int)).at_) }, rs, y⟩
    rw [hst0, a1, b1, c1, a2, b2, c2, a3, b3, qof_mk]
    show _ = (⟨⟨M, false⟩, { t with re := (leN (rnV l ⟨N, false⟩ 2) : Nat), rf := ((leN (rnV l ⟨N + 2, false⟩ 1) : Nat) : Int) == 1, rv := bs (readS l ((N + 2 + 1 : Nat) : Int)) }, rs, y⟩ : Sq)
    rw [c3]
  by_cases h98 : c = 98
  · subst h98
    have h : (nS l (nS l ⟨N, 0⟩ ((6 : Nat) : Int)) ((1 : Nat) : Int)).e = 0 := h
    obtain ⟨a1, a2, a3⟩ := q_num (w := 6) (nS_e h)
    rw [a1] at h
    obtain ⟨b1, b2, b3⟩ := q_num (w := 1) h
    refine ⟨⟨N + 6 + 1, show nS l (nS l ⟨N, 0⟩ ((6 : Nat) : Int)) ((1 : Nat) : Int) = _ from by rw [a1, b1]⟩, ?_⟩
    show (⟨rnP l (rnP l ⟨N, false⟩ 6) 1, { t with br := (leN (rnV l ⟨N, false⟩ 6) : Nat), bp := (leN (rnV l (rnP l ⟨N, false⟩ 6) 1) : Nat) }, rs, y⟩ : Sq) = qof ⟨nS l (nS l ⟨N, 0⟩ ((6 : Nat) : Int)) ((1 : Nat) : Int), { t with br := nN l ⟨N, 0⟩ ((6 : Nat) : Int), bp := nN l (nS l ⟨N, 0⟩ ((6 : Nat) : Int)) ((1 : Nat) : Int) }, rs, y⟩
    rw [a1, b1, a2, b2, a3, b3, qof_mk]
  by_cases h105 : c = 105
  · subst h105
    obtain ⟨a1, a2, a3⟩ := q_num (w := 6) (show (nS l ⟨N, 0⟩ 6).e = 0 from h)
    refine ⟨⟨N + 6, a1⟩, ?_⟩
    show (⟨rnP l ⟨N, false⟩ 6, { t with ix := (leN (rnV l ⟨N, false⟩ 6) : Nat) }, rs, y⟩ : Sq) = qof ⟨nS l ⟨N, 0⟩ ((6 : Nat) : Int), { t with ix := nN l ⟨N, 0⟩ ((6 : Nat) : Int) }, rs, y⟩
    rw [a1, a2, a3, qof_mk]
  by_cases h122 : c = 122
  · subst h122
    obtain ⟨a1, a2, a3⟩ := q_num (w := 6) (show (nS l ⟨N, 0⟩ 6).e = 0 from h)
    refine ⟨⟨N + 6, a1⟩, ?_⟩
    show (⟨rnP l ⟨N, false⟩ 6, { t with ix := (leN (rnV l ⟨N, false⟩ 6) : Nat) }, rs, y⟩ : Sq) = qof ⟨nS l ⟨N, 0⟩ ((6 : Nat) : Int), { t with ix := nN l ⟨N, 0⟩ ((6 : Nat) : Int) }, rs, y⟩
    rw [a1, a2, a3, qof_mk]
  by_cases h99 : c = 99
  · subst h99
    obtain ⟨a1, a2, a3⟩ := q_num (w := 6) (show (nS l ⟨N, 0⟩ 6).e = 0 from h)
    refine ⟨⟨N + 6, a1⟩, ?_⟩
    show (⟨rnP l ⟨N, false⟩ 6, { t with cm := (leN (rnV l ⟨N, false⟩ 6) : Nat) }, rs, y⟩ : Sq) = qof ⟨nS l ⟨N, 0⟩ ((6 : Nat) : Int), { t with cm := nN l ⟨N, 0⟩ ((6 : Nat) : Int) }, rs, y⟩
    rw [a1, a2, a3, qof_mk]
  by_cases h110 : c = 110
  · subst h110
    obtain ⟨a1, a2, a3⟩ := q_num (w := 6) (show (nS l ⟨N, 0⟩ 6).e = 0 from h)
    refine ⟨⟨N + 6, a1⟩, ?_⟩
    show (⟨rnP l ⟨N, false⟩ 6, { t with nc := (leN (rnV l ⟨N, false⟩ 6) : Nat) }, rs, y⟩ : Sq) = qof ⟨nS l ⟨N, 0⟩ ((6 : Nat) : Int), { t with nc := nN l ⟨N, 0⟩ ((6 : Nat) : Int) }, rs, y⟩
    rw [a1, a2, a3, qof_mk]
  by_cases h107 : c = 107
  · subst h107
    obtain ⟨a1, a2, a3⟩ := q_num (w := 1) (show (nS l ⟨N, 0⟩ 1).e = 0 from h)
    refine ⟨⟨N + 1, a1⟩, ?_⟩
    show (⟨rnP l ⟨N, false⟩ 1, { t with ck := (leN (rnV l ⟨N, false⟩ 1) : Nat) }, rs, y⟩ : Sq) = qof ⟨nS l ⟨N, 0⟩ ((1 : Nat) : Int), { t with ck := nN l ⟨N, 0⟩ ((1 : Nat) : Int) }, rs, y⟩
    rw [a1, a2, a3, qof_mk]
  by_cases h109 : c = 109
  · subst h109
    obtain ⟨a1, a2, a3⟩ := q_num (w := 1) (show (nS l ⟨N, 0⟩ 1).e = 0 from h)
    refine ⟨⟨N + 1, a1⟩, ?_⟩
    show (⟨rnP l ⟨N, false⟩ 1, { t with ct := (leN (rnV l ⟨N, false⟩ 1) : Nat) }, rs, y⟩ : Sq) = qof ⟨nS l ⟨N, 0⟩ ((1 : Nat) : Int), { t with ct := nN l ⟨N, 0⟩ ((1 : Nat) : Int) }, rs, y⟩
    rw [a1, a2, a3, qof_mk]
  by_cases h101 : c = 101
  · subst h101
    obtain ⟨M, m1, m2, m3⟩ := q_ent (show (eP l ⟨N, 0⟩).e = 0 from h)
    refine ⟨⟨M, m1⟩, ?_⟩
    show (⟨eqP l ⟨N, false⟩, { t with e := eqV l ⟨N, false⟩ }, rs, y⟩ : Sq) = qof ⟨eP l ⟨N, 0⟩, { t with e := eV l ⟨N, 0⟩ }, rs, y⟩
    rw [m1, m2, m3, qof_mk]
  by_cases h108 : c = 108
  · subst h108
    have hs := hs rfl
    have h : (repsP l (nN l ⟨N, 0⟩ ((1 : Nat) : Int)).toNat (nS l ⟨N, 0⟩ ((1 : Nat) : Int))).e = 0 := h
    obtain ⟨a1, a2, a3⟩ := q_num (w := 1) (reps_e _ h)
    have hs : ∀ r ∈ repsV l (nN l ⟨N, 0⟩ ((1 : Nat) : Int)).toNat (nS l ⟨N, 0⟩ ((1 : Nat) : Int)), stB r := hs
    rw [a1, a3, Int.toNat_natCast] at h hs
    obtain ⟨M, m1, m2, m3⟩ := q_reps _ h hs
    refine ⟨⟨M, show repsP l (nN l ⟨N, 0⟩ ((1 : Nat) : Int)).toNat (nS l ⟨N, 0⟩ ((1 : Nat) : Int)) = _ from by rw [a1, a3, Int.toNat_natCast, m1]⟩, ?_⟩
    show (⟨qrepsP l (leN (rnV l ⟨N, false⟩ 1)) (rnP l ⟨N, false⟩ 1), t, rs ++ qrepsV l (leN (rnV l ⟨N, false⟩ 1)) (rnP l ⟨N, false⟩ 1), y⟩ : Sq) = qof ⟨repsP l (nN l ⟨N, 0⟩ ((1 : Nat) : Int)).toNat (nS l ⟨N, 0⟩ ((1 : Nat) : Int)), t, rs ++ repsV l (nN l ⟨N, 0⟩ ((1 : Nat) : Int)).toNat (nS l ⟨N, 0⟩ ((1 : Nat) : Int)), y⟩
    rw [a1, a2, a3, Int.toNat_natCast, m1, m2, m3, qof_mk]
  have e1 : fldP l c ⟨⟨N, 0⟩, t, rs, y⟩ = ⟨xP l ⟨N, 0⟩, t, rs, readS l (N : Int)⟩ := by
    unfold fldP
    rw [if_neg h115, if_neg h111, if_neg h114, if_neg h98, if_neg h105, if_neg h122, if_neg h99, if_neg h110, if_neg h101, if_neg h108, if_neg h107, if_neg h109]
  have e2 : qfld l c ⟨⟨N, false⟩, t, rs, y⟩ = ⟨xqP l ⟨N, false⟩, t, rs, xqV l ⟨N, false⟩⟩ := by
    unfold qfld
    rw [if_neg h115, if_neg h111, if_neg h114, if_neg h98, if_neg h105, if_neg h122, if_neg h99, if_neg h110, if_neg h101, if_neg h108, if_neg h107, if_neg h109]
  rw [e1] at h ⊢
  rw [e2]
  obtain ⟨M, m1, m2, m3⟩ := q_txt (show (xP l ⟨N, 0⟩).e = 0 from h)
  rw [m1, m2, m3]
  exact ⟨⟨M, rfl⟩, rfl⟩
theorem fld_rsm {l : List UInt8} {c : Nat} {x : St} : (∀ r ∈ x.rs, r ∈ (fldP l c x).rs) ∧ (c = 108 → ∀ r ∈ repsV l (nN l x.s 1).toNat (nS l x.s 1), r ∈ (fldP l c x).rs) := by
  constructor
  · intro r hr
    by_cases h108 : c = 108
    · subst h108
      exact List.mem_append_left _ hr
    · rw [fld_rs l h108 x]; exact hr
  · rintro rfl r hr
    exact List.mem_append_right _ hr
theorem flds_rsm {l : List UInt8} : ∀ (fs : List UInt8) {x : St}, ∀ r ∈ x.rs, r ∈ (fldsP l fs x).rs
  | [], x, r, hr => hr
  | c :: fs, x, r, hr => flds_rsm fs (x := fldP l c.toNat x) r (fld_rsm.1 r hr)
theorem q_flds {l : List UInt8} : ∀ (fs : List UInt8) {x : St}, Nn x → (fldsP l fs x).s.e = 0 → (∀ r ∈ (fldsP l fs x).rs, stB r) → qfldsP l fs (qof x) = qof (fldsP l fs x)
  | [], x, hn, h, hs => rfl
  | c :: fs, x, hn, h, hs => by
    have h : (fldsP l fs (fldP l c.toNat x)).s.e = 0 := h
    have hs : ∀ r ∈ (fldsP l fs (fldP l c.toNat x)).rs, stB r := hs
    obtain ⟨a, b⟩ := q_fld hn (flds_e fs h) (fun hc r hr => hs r (flds_rsm fs r (fld_rsm.2 hc r hr)))
    show qfldsP l fs (qfld l c.toNat (qof x)) = qof (fldsP l fs (fldP l c.toNat x))
    rw [b]
    exact q_flds fs a h hs
theorem who_eq (i : Int) : whoQ i = whoV i := by unfold whoQ whoV; split <;> split <;> omega
theorem q_head {l : List UInt8} (h : (headP l).s.e = 0) : Nn (headP l) ∧ qheadP l = qof (headP l) := by
  have h : (nS l (nS l (nS l ⟨((0 : Nat) : Int), 0⟩ ((1 : Nat) : Int)) ((1 : Nat) : Int)) ((1 : Nat) : Int)).e = 0 := h
  obtain ⟨a1, a2, a3⟩ := q_num (w := 1) (nS_e (nS_e h))
  rw [a1] at h
  obtain ⟨b1, b2, b3⟩ := q_num (w := 1) (nS_e h)
  rw [b1] at h
  obtain ⟨c1, c2, c3⟩ := q_num (w := 1) h
  refine ⟨⟨0 + 1 + 1 + 1, show nS l (nS l (nS l ⟨((0 : Nat) : Int), 0⟩ ((1 : Nat) : Int)) ((1 : Nat) : Int)) ((1 : Nat) : Int) = _ from by rw [a1, b1, c1]⟩, ?_⟩
  show (⟨rnP l (rnP l (rnP l ⟨0, false⟩ 1) 1) 1, { mg0 with k := (leN (rnV l ⟨0, false⟩ 1) : Nat), fr := whoQ (leN (rnV l (rnP l ⟨0, false⟩ 1) 1) : Nat), to := whoQ (leN (rnV l (rnP l (rnP l ⟨0, false⟩ 1) 1) 1) : Nat) }, [], []⟩ : Sq) =
    qof ⟨nS l (nS l (nS l ⟨((0 : Nat) : Int), 0⟩ ((1 : Nat) : Int)) ((1 : Nat) : Int)) ((1 : Nat) : Int), { mg0 with k := nN l ⟨((0 : Nat) : Int), 0⟩ ((1 : Nat) : Int), fr := whoV (nN l (nS l ⟨((0 : Nat) : Int), 0⟩ ((1 : Nat) : Int)) ((1 : Nat) : Int)), to := whoV (nN l (nS l (nS l ⟨((0 : Nat) : Int), 0⟩ ((1 : Nat) : Int)) ((1 : Nat) : Int)) ((1 : Nat) : Int)) }, [], []⟩
  rw [a1, b1, c1, a2, b2, c2, a3, b3, c3, qof_mk, who_eq, who_eq]
theorem q_all {l : List UInt8} (hk : kindB (headP l).t.k = true) (h : (allP l).s.e = 0) (hs : ∀ r ∈ (allP l).rs, stB r) : qAll l = qof (allP l) := by
  unfold allP at h hs ⊢
  obtain ⟨a, b⟩ := q_head (flds_e _ h)
  unfold qAll qlets
  rw [b, show (qof (headP l)).t.k = (headP l).t.k from rfl, if_pos hk]
  exact q_flds _ a h hs
end Go.Proofs.YtajgikjmoeemnaaDoor
