/-
  PLAIN: what the reader finds is of the sizes that there are. No program in sight.
-/
import Derived.Test.YtajgikjmoeemnaaDoorPaQ
namespace Go.Proofs.YtajgikjmoeemnaaDoor
set_option maxRecDepth 100000
set_option linter.unusedVariables false
set_option linter.unusedSimpArgs false
theorem I64.of {n : Int} (h0 : 0 ≤ n) (h1 : n < 281474976710656) : I64 n := by unfold I64; omega
theorem en0_ok : Sm en0 ∧ U8 en0 ∧ I64 en0.c ∧ I64 en0.s := by
  refine ⟨⟨?_, ?_, ?_⟩, ⟨?_, ?_, ?_, ?_⟩, ⟨?_, ?_⟩, ⟨?_, ?_⟩⟩ <;> decide
theorem er_ok (l : List UInt8) (a : Int) : Sm (erV l a) ∧ U8 (erV l a) ∧ I64 (erV l a).c ∧ I64 (erV l a).s := by
  by_cases h : erE l a = 0
  · obtain ⟨hm, _⟩ := er_get h
    rcases may_bd hm with e | ⟨h1, h2, h3, h4, h5, h6, h7, h8, h9, h10, h11⟩
    · rw [e]
      refine ⟨⟨?_, ?_, ?_⟩, ⟨?_, ?_, ?_, ?_⟩, ⟨?_, ?_⟩, ⟨?_, ?_⟩⟩ <;> decide
    · have hm : (16 : Nat) ≤ maxLen := by decide
      refine ⟨⟨by omega, by omega, by omega⟩, ⟨by omega, by omega, by omega, by omega⟩, ⟨by omega, by omega⟩, ⟨by omega, by omega⟩⟩
  · have e : erV l a = en0 := by unfold erV; rw [if_neg h]
    rw [e]
    exact en0_ok
theorem nN6 (l : List UInt8) (s : Ps) : I64 (nN l s 6) := by
  have h : 0 ≤ getN l s.at_ 6 ∧ getN l s.at_ 6 < 256 ^ 6 := getN_bd l s.at_ 6
  unfold nN
  exact I64.of h.1 (by omega)
theorem nN2 (l : List UInt8) (s : Ps) : I64 (nN l s 2) := by
  have h : 0 ≤ getN l s.at_ 2 ∧ getN l s.at_ 2 < 256 ^ 2 := getN_bd l s.at_ 2
  unfold nN
  exact I64.of h.1 (by omega)
theorem nN1 (l : List UInt8) (s : Ps) : I64 (nN l s 1) := by
  have h := nN_byte l s
  exact I64.of h.1 (by omega)
theorem xS_len {l : List UInt8} (hl : l.length ≤ maxLen) (s : Ps) : (xS l s).size ≤ maxLen := by
  have h : (readS l s.at_).length ≤ l.length := by unfold readS; split <;> simp; omega
  show (readS l s.at_).length ≤ maxLen
  omega
theorem rep_ok (l : List UInt8) (s : Ps) : RpOk (repV l s) := by
  obtain ⟨a1, a2, a3, a4⟩ := er_ok l (nS l (nS l (nS l (nS l s 6) 1) 6) 1).at_
  obtain ⟨b1, b2, b3, b4⟩ := en0_ok
  have h0 : I64 0 := by unfold I64; omega
  have g1 : I64 (if nN l (nS l s 6) 1 = 4 then 0 else nN l (nS l (nS l s 6) 1) 6) := by split; exact h0; exact nN6 _ _
  have g2 : I64 (if nN l (nS l s 6) 1 = 4 then 0 else nN l (nS l (nS l (nS l s 6) 1) 6) 1) := by split; exact h0; exact nN1 _ _
  unfold repV
  refine ⟨nN6 _ _, nN_byte _ _, g1, g2, ?_⟩
  show Sm (if nN l (nS l s 6) 1 = 2 then eV l (nS l (nS l (nS l (nS l s 6) 1) 6) 1) else en0) ∧ U8 (if nN l (nS l s 6) 1 = 2 then eV l (nS l (nS l (nS l (nS l s 6) 1) 6) 1) else en0) ∧ I64 (if nN l (nS l s 6) 1 = 2 then eV l (nS l (nS l (nS l (nS l s 6) 1) 6) 1) else en0).c ∧ I64 (if nN l (nS l s 6) 1 = 2 then eV l (nS l (nS l (nS l (nS l s 6) 1) 6) 1) else en0).s
  split
  · exact ⟨a1, a2, a3, a4⟩
  · exact ⟨b1, b2, b3, b4⟩
theorem reps_ok (l : List UInt8) : ∀ (k : Nat) (s : Ps), ∀ x ∈ repsV l k s, RpOk x
  | 0, s, x, hx => by simp [repsV] at hx
  | k + 1, s, x, hx => by
    unfold repsV at hx
    split at hx
    · rcases List.mem_cons.1 hx with e | e
      · rw [e]; exact rep_ok l s
      · exact reps_ok l k _ x e
    · simp at hx
theorem reps_len (l : List UInt8) : ∀ (k : Nat) (s : Ps), (repsV l k s).length ≤ k
  | 0, s => by simp [repsV]
  | k + 1, s => by
    unfold repsV
    split
    · have := reps_len l k (repP l s)
      simp only [List.length_cons]; omega
    · simp
/-- a state of the reader that is of the sizes that there are -/
def StOk (k : Nat) (x : St) : Prop := MgN x.t ∧ (∀ r ∈ x.rs, RpOk r) ∧ x.rs.length ≤ 256 * k ∧ x.y.length ≤ maxLen
theorem fld_ok {l : List UInt8} (hl : l.length ≤ maxLen) {k : Nat} (c : Nat) {x : St} (h : StOk k x) : StOk (k + 1) (fldP l c x) := by
  obtain ⟨⟨h0, h1, h2, h3, h4, h5, h6, h7, h8, h9, h10, h11, h12, h13, h14, h15, h16, h17, h18, h19, h20⟩, hr, hn, hy⟩ := h
  have hn' : x.rs.length ≤ 256 * (k + 1) := by omega
  unfold fldP
  by_cases h115 : c = 115
  · simp only [if_pos h115]; exact ⟨⟨h0, h1, h2, h3, h4, h5, h6, h7, h8, h9, nN6 _ _, h11, h12, h13, h14, h15, h16, h17, h18, h19, h20⟩, hr, hn', hy⟩
  simp only [if_neg h115]
  by_cases h111 : c = 111
  · simp only [if_pos h111]; exact ⟨⟨h0, h1, h2, h3, h4, h5, h6, h7, h8, h9, h10, h11, h12, h13, h14, nN_byte _ _, xS_len hl _, xS_len hl _, xS_len hl _, h19, h20⟩, hr, hn', hy⟩
  simp only [if_neg h111]
  by_cases h114 : c = 114
  · simp only [if_pos h114]; exact ⟨⟨h0, h1, h2, h3, h4, h5, h6, h7, h8, h9, h10, h11, h12, h13, h14, h15, h16, h17, h18, nN2 _ _, xS_len hl _⟩, hr, hn', hy⟩
  simp only [if_neg h114]
  by_cases h98 : c = 98
  · simp only [if_pos h98]; exact ⟨⟨h0, h1, h2, nN6 _ _, nN1 _ _, h5, h6, h7, h8, h9, h10, h11, h12, h13, h14, h15, h16, h17, h18, h19, h20⟩, hr, hn', hy⟩
  simp only [if_neg h98]
  by_cases h105 : c = 105
  · simp only [if_pos h105]; exact ⟨⟨h0, h1, h2, h3, h4, nN6 _ _, h6, h7, h8, h9, h10, h11, h12, h13, h14, h15, h16, h17, h18, h19, h20⟩, hr, hn', hy⟩
  simp only [if_neg h105]
  by_cases h122 : c = 122
  · simp only [if_pos h122]; exact ⟨⟨h0, h1, h2, h3, h4, nN6 _ _, h6, h7, h8, h9, h10, h11, h12, h13, h14, h15, h16, h17, h18, h19, h20⟩, hr, hn', hy⟩
  simp only [if_neg h122]
  by_cases h99 : c = 99
  · simp only [if_pos h99]; exact ⟨⟨h0, h1, h2, h3, h4, h5, nN6 _ _, h7, h8, h9, h10, h11, h12, h13, h14, h15, h16, h17, h18, h19, h20⟩, hr, hn', hy⟩
  simp only [if_neg h99]
  by_cases h110 : c = 110
  · simp only [if_pos h110]; exact ⟨⟨h0, h1, h2, h3, h4, h5, h6, nN6 _ _, h8, h9, h10, h11, h12, h13, h14, h15, h16, h17, h18, h19, h20⟩, hr, hn', hy⟩
  simp only [if_neg h110]
  by_cases h101 : c = 101
  · obtain ⟨a1, a2, a3, a4⟩ := er_ok l x.s.at_
    simp only [if_pos h101]; exact ⟨⟨h0, h1, h2, h3, h4, h5, h6, h7, h8, h9, h10, a1, a2, a3, a4, h15, h16, h17, h18, h19, h20⟩, hr, hn', hy⟩
  simp only [if_neg h101]
  by_cases h108 : c = 108
  · have hb := nN_byte l x.s
    have hl2 := reps_len l (nN l x.s 1).toNat (nS l x.s 1)
    simp only [if_pos h108]
    refine ⟨⟨h0, h1, h2, h3, h4, h5, h6, h7, h8, h9, h10, h11, h12, h13, h14, h15, h16, h17, h18, h19, h20⟩, ?_, ?_, hy⟩
    · intro r hr2
      rcases List.mem_append.1 hr2 with e | e
      · exact hr r e
      · exact reps_ok _ _ _ r e
    · simp only [List.length_append]; omega
  simp only [if_neg h108]
  by_cases h107 : c = 107
  · simp only [if_pos h107]; exact ⟨⟨h0, h1, h2, h3, h4, h5, h6, h7, nN1 _ _, h9, h10, h11, h12, h13, h14, h15, h16, h17, h18, h19, h20⟩, hr, hn', hy⟩
  simp only [if_neg h107]
  by_cases h109 : c = 109
  · simp only [if_pos h109]; exact ⟨⟨h0, h1, h2, h3, h4, h5, h6, h7, h8, nN1 _ _, h10, h11, h12, h13, h14, h15, h16, h17, h18, h19, h20⟩, hr, hn', hy⟩
  simp only [if_neg h109]
  exact ⟨⟨h0, h1, h2, h3, h4, h5, h6, h7, h8, h9, h10, h11, h12, h13, h14, h15, h16, h17, h18, h19, h20⟩, hr, hn', xS_len hl x.s⟩
theorem flds_ok {l : List UInt8} (hl : l.length ≤ maxLen) : ∀ (fs : List UInt8) {k : Nat} {x : St}, StOk k x → StOk (k + fs.length) (fldsP l fs x)
  | [], k, x, h => h
  | c :: fs, k, x, h => by
    have := flds_ok hl fs (fld_ok hl c.toNat h)
    rw [List.length_cons, show k + (fs.length + 1) = k + 1 + fs.length by omega]
    exact this
theorem flds_snoc (l : List UInt8) (f : List UInt8) (k : Nat) (h : k < f.length) (x : St) : fldP l f[k].toNat (fldsP l (f.take k) x) = fldsP l (f.take (k + 1)) x := by
  rw [List.take_succ_eq_append_getElem h]
  unfold fldsP
  rw [List.foldl_append]
  rfl
theorem who_ok (l : List UInt8) (s : Ps) : I64 (whoV (nN l s 1)) := by
  have h := nN_byte l s
  unfold whoV I64
  split <;> omega
theorem head_ok (l : List UInt8) : StOk 0 (headP l) := by
  obtain ⟨b1, b2, b3, b4⟩ := en0_ok
  have h0 : I64 0 := by unfold I64; omega
  have hz : (ByteArray.empty).size ≤ maxLen := by decide
  refine ⟨⟨nN_byte _ _, who_ok _ _, who_ok _ _, h0, h0, h0, h0, h0, h0, h0, h0, b1, b2, b3, b4, ⟨Int.le_refl _, (by show (0 : Int) < 256; decide)⟩, hz, hz, hz, h0, hz⟩, ?_, ?_, ?_⟩
  · intro r hr; cases hr
  · exact Nat.zero_le _
  · exact Nat.zero_le _
theorem all_ok {l : List UInt8} (hl : l.length ≤ maxLen) : StOk 4 (allP l) := by
  have h := flds_ok hl (lets (headP l).t.k) (head_ok l)
  have h4 := lets_len (headP l).t.k
  exact ⟨h.1, h.2.1, by have := h.2.2.1; show (allP l).rs.length ≤ _; unfold allP; omega, h.2.2.2⟩
theorem MgN.congr {m m' : Mg} (h : nrm m = nrm m') (hN : MgN m) : MgN m' := by
  have e : MgN (nrm m) = MgN m := rfl
  have e' : MgN (nrm m') = MgN m' := rfl
  rw [← e', ← h, e]
  exact hN
end Go.Proofs.YtajgikjmoeemnaaDoor
