/-
  PLAIN: when the document's reader finds a message. No program in sight.
-/
import Derived.Test.YtajgikjmoeemnaaDoorRdP
import Derived.Test.YtajgikjmoeemnaaDoorPaE
namespace Go.Proofs.YtajgikjmoeemnaaDoor
set_option maxRecDepth 100000
set_option linter.unusedVariables false
set_option linter.unusedSimpArgs false
theorem leN_le (V : List UInt8) {n : Nat} (h : V.length ≤ n) (hn : n ≤ 6) : leN V < 281474976710656 := by
  have h1 := leN_lt V
  have h2 : (256 : Nat) ^ V.length ≤ 256 ^ 6 := Nat.pow_le_pow_right (by omega) (by omega)
  have h3 : (256 : Nat) ^ 6 = 281474976710656 := by decide
  omega
theorem qI6 (l : List UInt8) (s : Qs) : I64 (leN (rnV l s 6) : Nat) := by have := leN_le _ (rnV_len l s 6) (by omega); unfold I64; omega
theorem qI2 (l : List UInt8) (s : Qs) : I64 (leN (rnV l s 2) : Nat) := by have := leN_le _ (rnV_len l s 2) (by omega); unfold I64; omega
theorem qI1 (l : List UInt8) (s : Qs) : I64 (leN (rnV l s 1) : Nat) := by have := leN_1 l s; unfold I64; omega
theorem qB1 (l : List UInt8) (s : Qs) : 0 ≤ ((leN (rnV l s 1) : Nat) : Int) ∧ ((leN (rnV l s 1) : Nat) : Int) < 256 := by have := leN_1 l s; omega
theorem qwho_ok (l : List UInt8) (s : Qs) : I64 (whoQ (leN (rnV l s 1) : Nat)) := by have := leN_1 l s; unfold whoQ I64; split <;> omega
theorem xqV_l2 (l : List UInt8) (s : Qs) : (xqV l s).length ≤ 255 := by
  have h1 := leN_1 l s
  have h2 := rnV_len l (rnP l s 1) (xqN l s)
  unfold xqV
  unfold xqN at h2 ⊢
  omega
theorem xqS_ok (l : List UInt8) (s : Qs) : (bs (xqV l s)).size ≤ maxLen := by
  have h := xqV_l2 l s
  have h9 : (255 : Nat) ≤ maxLen := by decide
  show (xqV l s).length ≤ maxLen
  omega
theorem eqV_ok (l : List UInt8) (s : Qs) : Sm (eqV l s) ∧ U8 (eqV l s) ∧ I64 (eqV l s).c ∧ I64 (eqV l s).s := by
  unfold eqV
  split
  · exact en0_ok
  · exact er_ok l s.a
theorem qrep_ok (l : List UInt8) (s : Qs) : RpOk (qrepV l s) := by
  obtain ⟨a1, a2, a3, a4⟩ := eqV_ok l (rnP l (rnP l (rnP l (rnP l s 6) 1) 6) 1)
  obtain ⟨b1, b2, b3, b4⟩ := en0_ok
  have h0 : I64 0 := by unfold I64; omega
  have g1 : I64 (if leN (rnV l (rnP l s 6) 1) = 2 ∨ leN (rnV l (rnP l s 6) 1) = 3 then (leN (rnV l (rnP l (rnP l s 6) 1) 6) : Nat) else 0) := by split; exact qI6 _ _; exact h0
  have g2 : I64 (if leN (rnV l (rnP l s 6) 1) = 2 ∨ leN (rnV l (rnP l s 6) 1) = 3 then (leN (rnV l (rnP l (rnP l (rnP l s 6) 1) 6) 1) : Nat) else 0) := by split; exact qI1 _ _; exact h0
  unfold qrepV
  refine ⟨qI6 _ _, qB1 _ _, g1, g2, ?_⟩
  show Sm (if leN (rnV l (rnP l s 6) 1) = 2 then eqV l (rnP l (rnP l (rnP l (rnP l s 6) 1) 6) 1) else en0) ∧ U8 (if leN (rnV l (rnP l s 6) 1) = 2 then eqV l (rnP l (rnP l (rnP l (rnP l s 6) 1) 6) 1) else en0) ∧ I64 (if leN (rnV l (rnP l s 6) 1) = 2 then eqV l (rnP l (rnP l (rnP l (rnP l s 6) 1) 6) 1) else en0).c ∧ I64 (if leN (rnV l (rnP l s 6) 1) = 2 then eqV l (rnP l (rnP l (rnP l (rnP l s 6) 1) 6) 1) else en0).s
  split
  · exact ⟨a1, a2, a3, a4⟩
  · exact ⟨b1, b2, b3, b4⟩
theorem qreps_ok (l : List UInt8) : ∀ (k : Nat) (s : Qs), ∀ x ∈ qrepsV l k s, RpOk x
  | 0, s, x, hx => by simp [qrepsV] at hx
  | k + 1, s, x, hx => by
    unfold qrepsV at hx
    split at hx
    · rcases List.mem_cons.1 hx with e | e
      · rw [e]; exact qrep_ok l s
      · exact qreps_ok l k _ x e
    · simp at hx
theorem qreps_len (l : List UInt8) : ∀ (k : Nat) (s : Qs), (qrepsV l k s).length ≤ k
  | 0, s => by simp [qrepsV]
  | k + 1, s => by
    unfold qrepsV
    split
    · have := qreps_len l k (qrepP l s)
      simp only [List.length_cons]; omega
    · simp
def SqOk (k : Nat) (x : Sq) : Prop := MgN x.t ∧ (∀ r ∈ x.rs, RpOk r) ∧ x.rs.length ≤ 256 * k ∧ x.y.length ≤ 255
theorem qfld_ok {l : List UInt8} {k : Nat} (c : Nat) {x : Sq} (h : SqOk k x) : SqOk (k + 1) (qfld l c x) := by
  obtain ⟨⟨h0, h1, h2, h3, h4, h5, h6, h7, h8, h9, h10, h11, h12, h13, h14, h15, h16, h17, h18, h19, h20⟩, hr, hn, hy⟩ := h
  have hn' : x.rs.length ≤ 256 * (k + 1) := by omega
  unfold qfld
  by_cases h115 : c = 115
  · simp only [if_pos h115]; exact ⟨⟨h0, h1, h2, h3, h4, h5, h6, h7, h8, h9, qI6 _ _, h11, h12, h13, h14, h15, h16, h17, h18, h19, h20⟩, hr, hn', hy⟩
  simp only [if_neg h115]
  by_cases h111 : c = 111
  · simp only [if_pos h111]; exact ⟨⟨h0, h1, h2, h3, h4, h5, h6, h7, h8, h9, h10, h11, h12, h13, h14, qB1 _ _, xqS_ok _ _, xqS_ok _ _, xqS_ok _ _, h19, h20⟩, hr, hn', hy⟩
  simp only [if_neg h111]
  by_cases h114 : c = 114
  · simp only [if_pos h114]; exact ⟨⟨h0, h1, h2, h3, h4, h5, h6, h7, h8, h9, h10, h11, h12, h13, h14, h15, h16, h17, h18, qI2 _ _, xqS_ok _ _⟩, hr, hn', hy⟩
  simp only [if_neg h114]
  by_cases h98 : c = 98
  · simp only [if_pos h98]; exact ⟨⟨h0, h1, h2, qI6 _ _, qI1 _ _, h5, h6, h7, h8, h9, h10, h11, h12, h13, h14, h15, h16, h17, h18, h19, h20⟩, hr, hn', hy⟩
  simp only [if_neg h98]
  by_cases h105 : c = 105
  · simp only [if_pos h105]; exact ⟨⟨h0, h1, h2, h3, h4, qI6 _ _, h6, h7, h8, h9, h10, h11, h12, h13, h14, h15, h16, h17, h18, h19, h20⟩, hr, hn', hy⟩
  simp only [if_neg h105]
  by_cases h122 : c = 122
  · simp only [if_pos h122]; exact ⟨⟨h0, h1, h2, h3, h4, qI6 _ _, h6, h7, h8, h9, h10, h11, h12, h13, h14, h15, h16, h17, h18, h19, h20⟩, hr, hn', hy⟩
  simp only [if_neg h122]
  by_cases h99 : c = 99
  · simp only [if_pos h99]; exact ⟨⟨h0, h1, h2, h3, h4, h5, qI6 _ _, h7, h8, h9, h10, h11, h12, h13, h14, h15, h16, h17, h18, h19, h20⟩, hr, hn', hy⟩
  simp only [if_neg h99]
  by_cases h110 : c = 110
  · simp only [if_pos h110]; exact ⟨⟨h0, h1, h2, h3, h4, h5, h6, qI6 _ _, h8, h9, h10, h11, h12, h13, h14, h15, h16, h17, h18, h19, h20⟩, hr, hn', hy⟩
  simp only [if_neg h110]
  by_cases h101 : c = 101
  · obtain ⟨a1, a2, a3, a4⟩ := eqV_ok l x.s
    simp only [if_pos h101]; exact ⟨⟨h0, h1, h2, h3, h4, h5, h6, h7, h8, h9, h10, a1, a2, a3, a4, h15, h16, h17, h18, h19, h20⟩, hr, hn', hy⟩
  simp only [if_neg h101]
  by_cases h108 : c = 108
  · have hb := leN_1 l x.s
    have hl2 := qreps_len l (leN (rnV l x.s 1)) (rnP l x.s 1)
    simp only [if_pos h108]
    refine ⟨⟨h0, h1, h2, h3, h4, h5, h6, h7, h8, h9, h10, h11, h12, h13, h14, h15, h16, h17, h18, h19, h20⟩, ?_, ?_, hy⟩
    · intro r hr2
      rcases List.mem_append.1 hr2 with e | e
      · exact hr r e
      · exact qreps_ok _ _ _ r e
    · simp only [List.length_append]; omega
  simp only [if_neg h108]
  by_cases h107 : c = 107
  · simp only [if_pos h107]; exact ⟨⟨h0, h1, h2, h3, h4, h5, h6, h7, qI1 _ _, h9, h10, h11, h12, h13, h14, h15, h16, h17, h18, h19, h20⟩, hr, hn', hy⟩
  simp only [if_neg h107]
  by_cases h109 : c = 109
  · simp only [if_pos h109]; exact ⟨⟨h0, h1, h2, h3, h4, h5, h6, h7, h8, qI1 _ _, h10, h11, h12, h13, h14, h15, h16, h17, h18, h19, h20⟩, hr, hn', hy⟩
  simp only [if_neg h109]
  exact ⟨⟨h0, h1, h2, h3, h4, h5, h6, h7, h8, h9, h10, h11, h12, h13, h14, h15, h16, h17, h18, h19, h20⟩, hr, hn', xqV_l2 l x.s⟩
theorem qflds_ok {l : List UInt8} : ∀ (fs : List UInt8) {k : Nat} {x : Sq}, SqOk k x → SqOk (k + fs.length) (qfldsP l fs x)
  | [], k, x, h => h
  | c :: fs, k, x, h => by
    have := qflds_ok (l := l) fs (qfld_ok (l := l) c.toNat h)
    rw [List.length_cons, show k + (fs.length + 1) = k + 1 + fs.length by omega]
    exact this
theorem qhead_ok (l : List UInt8) : SqOk 0 (qheadP l) := by
  obtain ⟨b1, b2, b3, b4⟩ := en0_ok
  have h0 : I64 0 := by unfold I64; omega
  have hz : (ByteArray.empty).size ≤ maxLen := by decide
  refine ⟨⟨qB1 _ _, qwho_ok _ _, qwho_ok _ _, h0, h0, h0, h0, h0, h0, h0, h0, b1, b2, b3, b4, ⟨Int.le_refl _, (by show (0 : Int) < 256; decide)⟩, hz, hz, hz, h0, hz⟩, ?_, ?_, ?_⟩
  · intro r hr; cases hr
  · exact Nat.zero_le _
  · exact Nat.zero_le _
theorem qall_ok (l : List UInt8) : MgN (qAll l).t ∧ (∀ r ∈ (qAll l).rs, RpOk r) ∧ (qAll l).rs.length ≤ 1024 ∧ (qAll l).y.length ≤ 255 := by
  have h := qflds_ok (l := l) (qlets (qheadP l).t.k) (qhead_ok l)
  have h4 : (qlets (qheadP l).t.k).length ≤ 4 := by
    unfold qlets
    split
    · exact lets_len _
    · decide
  exact ⟨h.1, h.2.1, by have := h.2.2.1; show (qAll l).rs.length ≤ _; unfold qAll; omega, h.2.2.2⟩
theorem rep_st {x : Rp} {n : Int} (h : repB x n = true) : stB x := by
  simp only [repB, Bool.and_eq_true, Bool.or_eq_true, beq_iff_eq] at h
  rcases h.2 with h | h | h
  · exact .inl h.1
  · exact .inr (.inl h.1)
  · exact .inr (.inr h.1)
theorem may_st {m : Mg} {rs : List Rp} {y : List UInt8} {n : Int} (h : mayM m rs y n = true) : ∀ r ∈ rs, stB r := by
  obtain ⟨h1, h2, h3, h4, h5⟩ := may_parts h
  by_cases hk : m.k = 4
  · have h6 : repsB rs n = true := h4 108 (by rw [hk]; decide)
    simp only [repsB, Bool.and_eq_true] at h6
    exact fun r hr => rep_st (reps_all 0 rs n h6.1 r hr)
  · obtain ⟨_, e, _⟩ := sameM_iff.1 h5
    unfold bareR at e
    rw [if_neg hk] at e
    rw [← e]
    intro r hr; cases hr
/-- the message that the document's reader finds -/
def qM (l : List UInt8) : Mg := { (qAll l).t with yn := (qAll l).y.length }
theorem q_yes {l : List UInt8} {n : Int} (h : paOk l n = true) : qAll l = qof (allP l) := by
  have h2 := (pa_sound h).1
  simp only [paOk, Bool.and_eq_true, beq_iff_eq] at h
  refine q_all ?_ h.1 (may_st h2)
  have hk := (may_parts h2).1
  rw [show (paM l).k = (allP l).t.k from rfl] at hk
  unfold allP at hk
  rwa [flds_k] at hk
theorem q_iff (l : List UInt8) (n : Int) : paOk l n = (!(qAll l).s.b && (mayM (qM l) (qAll l).rs (qAll l).y n && decide (prL (qM l) (qAll l).rs (qAll l).y = l))) := by
  refine bool_iff ⟨fun h => ?_, fun h => ?_⟩
  · obtain ⟨h1, h2⟩ := pa_sound h
    have e := q_yes h
    unfold qM
    rw [e]
    have h1 : mayM { (qof (allP l)).t with yn := (qof (allP l)).y.length } (qof (allP l)).rs (qof (allP l)).y n = true := h1
    have h2 : prL { (qof (allP l)).t with yn := (qof (allP l)).y.length } (qof (allP l)).rs (qof (allP l)).y = l := h2
    rw [h1, h2]
    simp [qof]
  · simp only [Bool.and_eq_true, Bool.not_eq_true', decide_eq_true_eq] at h
    obtain ⟨h1, h2, h3⟩ := h
    have hN : MgN (qM l) := (qall_ok l).1
    have := (pa_comp hN rfl h2).1
    rwa [h3] at this
end Go.Proofs.YtajgikjmoeemnaaDoor
