/-
  PLAIN: what message's reader finds. No program in sight.
-/
import Derived.Test.YtajgikjmoeemnaaDoorMsp
namespace Go.Proofs.YtajgikjmoeemnaaDoor
set_option maxRecDepth 100000
set_option linter.unusedVariables false
set_option linter.unusedSimpArgs false
/-- where the reader stands, and what came up first -/
structure Ps where
  at_ : Int
  e : Int
def fP (s : Ps) (k : Int) : Ps := ⟨s.at_, if s.e = 0 then k else s.e⟩
def nN (l : List UInt8) (s : Ps) (w : Int) : Int := getN l s.at_ w
def nS (l : List UInt8) (s : Ps) (w : Int) : Ps := if getE l s.at_ w = 0 then ⟨getP l s.at_ w, s.e⟩ else fP s (getE l s.at_ w)
def xS (l : List UInt8) (s : Ps) : ByteArray := bs (readS l s.at_)
def xP (l : List UInt8) (s : Ps) : Ps := if readE l s.at_ = 0 then ⟨readP l s.at_, s.e⟩ else fP s (readE l s.at_)
def eV (l : List UInt8) (s : Ps) : En := erV l s.at_
def eP (l : List UInt8) (s : Ps) : Ps := if erE l s.at_ = 0 then ⟨erN l s.at_, s.e⟩ else fP s (erE l s.at_)
def whoV (i : Int) : Int := if 128 ≤ i then 127 - i else i
/-- a report -/
def repV (l : List UInt8) (s : Ps) : Rp :=
  let s1 := nS l s 6
  let s2 := nS l s1 1
  let st := nN l s1 1
  let s4 := nS l (nS l s2 6) 1
  ⟨nN l s 6, st, if st = 4 then 0 else nN l s2 6, if st = 4 then 0 else nN l (nS l s2 6) 1, if st = 2 then eV l s4 else en0⟩
def repP (l : List UInt8) (s : Ps) : Ps :=
  let s1 := nS l s 6
  let s2 := nS l s1 1
  let st := nN l s1 1
  let s4 := nS l (nS l s2 6) 1
  if st = 4 then s2 else if st = 2 then eP l s4 else s4
def repsV (l : List UInt8) : Nat → Ps → List Rp
  | 0, s => []
  | k + 1, s => if s.e = 0 then repV l s :: repsV l k (repP l s) else []
def repsP (l : List UInt8) : Nat → Ps → Ps
  | 0, s => s
  | k + 1, s => if s.e = 0 then repsP l k (repP l s) else s
structure St where
  s : Ps
  t : Mg
  rs : List Rp
  y : List UInt8
def fldP (l : List UInt8) (c : Nat) (x : St) : St :=
  if c = 115 then { x with s := nS l x.s 6, t := { x.t with sq := nN l x.s 6 } }
  else if c = 111 then
    let s1 := nS l x.s 1
    let s2 := xP l s1
    let s3 := xP l s2
    { x with s := xP l s3, t := { x.t with ok := nN l x.s 1, o0 := xS l s1, o1 := xS l s2, o2 := xS l s3 } }
  else if c = 114 then
    let s1 := nS l x.s 2
    let s2 := nS l s1 1
    let s3 := if 1 < nN l s1 1 then fP s2 200 else s2
    { x with s := xP l s3, t := { x.t with re := nN l x.s 2, rf := nN l s1 1 == 1, rv := xS l s3 } }
  else if c = 98 then { x with s := nS l (nS l x.s 6) 1, t := { x.t with br := nN l x.s 6, bp := nN l (nS l x.s 6) 1 } }
  else if c = 105 then { x with s := nS l x.s 6, t := { x.t with ix := nN l x.s 6 } }
  else if c = 122 then { x with s := nS l x.s 6, t := { x.t with ix := nN l x.s 6 } }
  else if c = 99 then { x with s := nS l x.s 6, t := { x.t with cm := nN l x.s 6 } }
  else if c = 110 then { x with s := nS l x.s 6, t := { x.t with nc := nN l x.s 6 } }
  else if c = 101 then { x with s := eP l x.s, t := { x.t with e := eV l x.s } }
  else if c = 108 then { x with s := repsP l (nN l x.s 1).toNat (nS l x.s 1), rs := x.rs ++ repsV l (nN l x.s 1).toNat (nS l x.s 1) }
  else if c = 107 then { x with s := nS l x.s 1, t := { x.t with ck := nN l x.s 1 } }
  else if c = 109 then { x with s := nS l x.s 1, t := { x.t with ct := nN l x.s 1 } }
  else { x with s := xP l x.s, y := readS l x.s.at_ }
def fldsP (l : List UInt8) (fs : List UInt8) (x : St) : St := fs.foldl (fun x c => fldP l c.toNat x) x
def headP (l : List UInt8) : St :=
  let s1 := nS l ⟨0, 0⟩ 1
  let s2 := nS l s1 1
  ⟨nS l s2 1, { mg0 with k := nN l ⟨0, 0⟩ 1, fr := whoV (nN l s1 1), to := whoV (nN l s2 1) }, [], []⟩
/-- what the reader finds in all -/
def allP (l : List UInt8) : St := fldsP l (lets (headP l).t.k) (headP l)

/-! what is found is what was there -/
theorem fP_e {s : Ps} {k : Int} (hk : k ≠ 0) (h : (fP s k).e = 0) : False := by
  unfold fP at h
  simp only at h
  split at h <;> omega
theorem nS_e {l : List UInt8} {s : Ps} {w : Int} (h : (nS l s w).e = 0) : s.e = 0 := by
  unfold nS at h
  split at h
  · exact h
  · rename_i h0; exact (fP_e h0 h).elim
theorem nS_sound {l : List UInt8} {N w : Nat} {e : Int} (h : (nS l ⟨N, e⟩ w).e = 0) : nS l ⟨N, e⟩ w = ⟨((N + w : Nat) : Int), 0⟩ ∧ putL w (nN l ⟨N, e⟩ w) = seg l N (N + w) ∧ N + w ≤ l.length := by
  have h0 := nS_e h
  simp only at h0
  subst h0
  unfold nS at h ⊢
  split at h
  · rename_i h1
    rw [if_pos h1]
    obtain ⟨p1, p2⟩ := put_get h1
    refine ⟨?_, p1, p2⟩
    unfold getP
    rw [if_pos h1]
    simp
  · rename_i h1; exact (fP_e h1 h).elim
theorem xP_e {l : List UInt8} {s : Ps} (h : (xP l s).e = 0) : s.e = 0 := by
  unfold xP at h
  split at h
  · exact h
  · rename_i h0; exact (fP_e h0 h).elim
theorem xP_sound {l : List UInt8} {N : Nat} {e : Int} (h : (xP l ⟨N, e⟩).e = 0) : ∃ M : Nat, xP l ⟨N, e⟩ = ⟨M, 0⟩ ∧ N ≤ M ∧ M ≤ l.length ∧ textL (readS l N) = seg l N M := by
  have h0 := xP_e h
  simp only at h0
  subst h0
  unfold xP at h ⊢
  split at h
  · rename_i h1
    rw [if_pos h1]
    obtain ⟨n, p1, p2, p3, p4, p5⟩ := text_read h1
    refine ⟨N + 1 + n, ?_, by omega, p2, p3⟩
    unfold readP
    rw [if_pos h1, p1]
    simp
  · rename_i h1; exact (fP_e h1 h).elim
theorem eP_e {l : List UInt8} {s : Ps} (h : (eP l s).e = 0) : s.e = 0 := by
  unfold eP at h
  split at h
  · exact h
  · rename_i h0; exact (fP_e h0 h).elim
theorem eP_sound {l : List UInt8} {N : Nat} {e : Int} (h : (eP l ⟨N, e⟩).e = 0) : ∃ M : Nat, eP l ⟨N, e⟩ = ⟨M, 0⟩ ∧ N ≤ M ∧ M ≤ l.length ∧ bytesL (eV l ⟨N, e⟩) = seg l N M := by
  have h0 := eP_e h
  simp only at h0
  subst h0
  unfold eP at h ⊢
  split at h
  · rename_i h1
    rw [if_pos h1]
    obtain ⟨hm, A, M, hA, hM, hlt, hle, hL⟩ := er_get h1
    simp only at hA hM
    obtain rfl : N = A := by omega
    refine ⟨M, by simp only [hM], by omega, hle, ?_⟩
    unfold bytesL eV
    rw [hm, if_pos rfl]
    exact hL
  · rename_i h1; exact (fP_e h1 h).elim
theorem rep_e {l : List UInt8} {s : Ps} (h : (repP l s).e = 0) : s.e = 0 := by
  unfold repP at h
  simp only at h
  split at h
  · exact nS_e (nS_e h)
  · split at h
    · exact nS_e (nS_e (nS_e (nS_e (eP_e h))))
    · exact nS_e (nS_e (nS_e (nS_e h)))
theorem rep_sound {l : List UInt8} {N : Nat} {e : Int} (h : (repP l ⟨N, e⟩).e = 0) : ∃ M : Nat, repP l ⟨N, e⟩ = ⟨M, 0⟩ ∧ N ≤ M ∧ M ≤ l.length ∧ repL (repV l ⟨N, e⟩) = seg l N M := by
  have h0 := rep_e h
  simp only at h0
  subst h0
  have h1 : (nS l ⟨N, 0⟩ 6).e = 0 := by
    unfold repP at h; simp only at h
    split at h
    · exact nS_e h
    · split at h
      · exact nS_e (nS_e (nS_e (eP_e h)))
      · exact nS_e (nS_e (nS_e h))
  obtain ⟨a1, a2, a3⟩ := nS_sound (w := 6) h1
  have a1 : nS l ⟨N, 0⟩ 6 = ⟨((N + 6 : Nat) : Int), 0⟩ := a1
  have a2 : putL 6 (nN l ⟨N, 0⟩ 6) = seg l N (N + 6) := a2
  have h2 : (nS l ⟨((N + 6 : Nat) : Int), 0⟩ 1).e = 0 := by
    unfold repP at h; simp only [a1] at h
    split at h
    · exact h
    · split at h
      · exact nS_e (nS_e (eP_e h))
      · exact nS_e (nS_e h)
  obtain ⟨b1, b2, b3⟩ := nS_sound (w := 1) h2
  have b1 : nS l ⟨((N + 6 : Nat) : Int), 0⟩ 1 = ⟨((N + 6 + 1 : Nat) : Int), 0⟩ := b1
  have b2 : putL 1 (nN l ⟨((N + 6 : Nat) : Int), 0⟩ 1) = seg l (N + 6) (N + 6 + 1) := b2
  unfold repP at h ⊢
  unfold repV repL
  simp only [a1, b1] at h ⊢
  rw [a2, b2, seg_append l (by omega) (by omega)]
  by_cases h4 : nN l ⟨((N + 6 : Nat) : Int), 0⟩ 1 = 4
  · rw [if_pos h4, if_pos h4, if_neg (by omega)]
    exact ⟨N + 6 + 1, rfl, by omega, b3, by simp⟩
  · simp only [if_neg h4] at h ⊢
    have h5 : (nS l (nS l ⟨((N + 6 + 1 : Nat) : Int), 0⟩ 6) 1).e = 0 := by
      split at h
      · exact eP_e h
      · exact h
    obtain ⟨c1, c2, c3⟩ := nS_sound (w := 6) (nS_e h5)
    have c1 : nS l ⟨((N + 6 + 1 : Nat) : Int), 0⟩ 6 = ⟨((N + 6 + 1 + 6 : Nat) : Int), 0⟩ := c1
    have c2 : putL 6 (nN l ⟨((N + 6 + 1 : Nat) : Int), 0⟩ 6) = seg l (N + 6 + 1) (N + 6 + 1 + 6) := c2
    rw [c1] at h5
    obtain ⟨d1, d2, d3⟩ := nS_sound (w := 1) h5
    have d1 : nS l ⟨((N + 6 + 1 + 6 : Nat) : Int), 0⟩ 1 = ⟨((N + 6 + 1 + 6 + 1 : Nat) : Int), 0⟩ := d1
    have d2 : putL 1 (nN l ⟨((N + 6 + 1 + 6 : Nat) : Int), 0⟩ 1) = seg l (N + 6 + 1 + 6) (N + 6 + 1 + 6 + 1) := d2
    simp only [c1, d1] at h ⊢
    rw [c2, d2, seg_append l (by omega) (by omega)]
    by_cases h2 : nN l ⟨((N + 6 : Nat) : Int), 0⟩ 1 = 2
    · simp only [if_pos h2] at h ⊢
      obtain ⟨M, m1, m2, m3, m4⟩ := eP_sound h
      refine ⟨M, m1, by omega, m3, ?_⟩
      rw [m4, seg_append l (by omega) (by omega), seg_append l (by omega) (by omega)]
    · simp only [if_neg h2] at h ⊢
      refine ⟨_, rfl, by omega, d3, ?_⟩
      rw [List.append_nil, seg_append l (by omega) (by omega)]
theorem seg_nil (l : List UInt8) (N : Nat) : seg l N N = [] := by unfold seg; rw [Nat.sub_self, List.take_zero]
theorem reps_e {l : List UInt8} : ∀ (k : Nat) {s : Ps}, (repsP l k s).e = 0 → s.e = 0
  | 0, s, h => h
  | k + 1, s, h => by
    unfold repsP at h
    split at h
    · assumption
    · exact h
theorem reps_sound {l : List UInt8} : ∀ (k : Nat) {N : Nat} {e : Int}, N ≤ l.length → (repsP l k ⟨N, e⟩).e = 0 → ∃ M : Nat, repsP l k ⟨N, e⟩ = ⟨M, 0⟩ ∧ N ≤ M ∧ M ≤ l.length ∧ (repsV l k ⟨N, e⟩).length = k ∧ repsL (repsV l k ⟨N, e⟩) = seg l N M
  | 0, N, e, hN, h => by
    have h : e = 0 := h
    subst h
    exact ⟨N, rfl, Nat.le_refl _, hN, rfl, (seg_nil l N).symm⟩
  | k + 1, N, e, hN, h => by
    have h0 : e = 0 := reps_e (k + 1) h
    subst h0
    unfold repsP at h ⊢
    unfold repsV
    simp only [if_true] at h ⊢
    obtain ⟨M, m1, m2, m3, m4⟩ := rep_sound (reps_e k h)
    rw [m1] at h ⊢
    obtain ⟨P, p1, p2, p3, p4, p5⟩ := reps_sound k m3 h
    refine ⟨P, p1, by omega, p3, by rw [List.length_cons, p4], ?_⟩
    unfold repsL at p5 ⊢
    rw [List.map_cons, List.flatten_cons, m4, p5, seg_append l m2 p2]
theorem nN_byte (l : List UInt8) (s : Ps) : 0 ≤ nN l s 1 ∧ nN l s 1 < 256 := by
  have h : 0 ≤ getN l s.at_ 1 ∧ getN l s.at_ 1 < 256 ^ 1 := getN_bd l s.at_ 1
  unfold nN
  omega
theorem fld_e {l : List UInt8} {c : Nat} {x : St} (h : (fldP l c x).s.e = 0) : x.s.e = 0 := by
  unfold fldP at h
  by_cases h115 : c = 115
  · simp only [if_pos h115] at h; exact nS_e h
  simp only [if_neg h115] at h
  by_cases h111 : c = 111
  · simp only [if_pos h111] at h; exact nS_e (xP_e (xP_e (xP_e h)))
  simp only [if_neg h111] at h
  by_cases h114 : c = 114
  · simp only [if_pos h114] at h
    have h1 := xP_e h
    split at h1
    · exact (fP_e (by omega) h1).elim
    · exact nS_e (nS_e h1)
  simp only [if_neg h114] at h
  by_cases h98 : c = 98
  · simp only [if_pos h98] at h; exact nS_e (nS_e h)
  simp only [if_neg h98] at h
  by_cases h105 : c = 105
  · simp only [if_pos h105] at h; exact nS_e h
  simp only [if_neg h105] at h
  by_cases h122 : c = 122
  · simp only [if_pos h122] at h; exact nS_e h
  simp only [if_neg h122] at h
  by_cases h99 : c = 99
  · simp only [if_pos h99] at h; exact nS_e h
  simp only [if_neg h99] at h
  by_cases h110 : c = 110
  · simp only [if_pos h110] at h; exact nS_e h
  simp only [if_neg h110] at h
  by_cases h101 : c = 101
  · simp only [if_pos h101] at h; exact eP_e h
  simp only [if_neg h101] at h
  by_cases h108 : c = 108
  · simp only [if_pos h108] at h; exact nS_e (reps_e _ h)
  simp only [if_neg h108] at h
  by_cases h107 : c = 107
  · simp only [if_pos h107] at h; exact nS_e h
  simp only [if_neg h107] at h
  by_cases h109 : c = 109
  · simp only [if_pos h109] at h; exact nS_e h
  simp only [if_neg h109] at h
  exact xP_e h
/-- what a field's reading comes to: its bytes stand there -/
def FS (l : List UInt8) (N : Nat) (c : Nat) (x' : St) : Prop := ∃ M : Nat, x'.s = ⟨M, 0⟩ ∧ N ≤ M ∧ M ≤ l.length ∧ fieldL c x'.t x'.rs x'.y = seg l N M
theorem fs_num {l : List UInt8} {N : Nat} (w : Nat) {c : Nat} {x' : St} (h : x'.s.e = 0) (hs : x'.s = nS l ⟨N, 0⟩ w) (hf : fieldL c x'.t x'.rs x'.y = putL w (nN l ⟨N, 0⟩ w)) : FS l N c x' := by
  rw [hs] at h
  obtain ⟨a1, a2, a3⟩ := nS_sound h
  exact ⟨N + w, by rw [hs, a1], by omega, a3, by rw [hf, a2]⟩
theorem fld_sound {l : List UInt8} {c : Nat} {x : St} {N : Nat} (hs : x.s = ⟨N, 0⟩) (hr : c = 108 → x.rs = []) (h : (fldP l c x).s.e = 0) : FS l N c (fldP l c x) := by
  obtain ⟨s, t, rs, y⟩ := x
  simp only at hs hr
  subst hs
  by_cases h115 : c = 115
  · subst h115; exact fs_num 6 h rfl rfl
  by_cases h111 : c = 111
  · subst h111
    have h : (xP l (xP l (xP l (nS l ⟨N, 0⟩ 1)))).e = 0 := h
    obtain ⟨a1, a2, a3⟩ := nS_sound (w := 1) (xP_e (xP_e (xP_e h)))
    have a1 : nS l ⟨N, 0⟩ 1 = ⟨((N + 1 : Nat) : Int), 0⟩ := a1
    rw [a1] at h
    obtain ⟨M1, b1, b2, b3, b4⟩ := xP_sound (xP_e (xP_e h))
    rw [b1] at h
    obtain ⟨M2, c1, c2, c3, c4⟩ := xP_sound (xP_e h)
    rw [c1] at h
    obtain ⟨M3, d1, d2, d3, d4⟩ := xP_sound h
    refine ⟨M3, ?_, by omega, d3, ?_⟩
    · show xP l (xP l (xP l (nS l ⟨N, 0⟩ 1))) = _
      rw [a1, b1, c1, d1]
    · show putL 1 (nN l ⟨N, 0⟩ 1) ++ (textL (readS l (nS l ⟨N, 0⟩ 1).at_) ++ (textL (readS l (xP l (nS l ⟨N, 0⟩ 1)).at_) ++ textL (readS l (xP l (xP l (nS l ⟨N, 0⟩ 1))).at_))) = _
      rw [a1, b1, c1]
      simp only
      rw [show putL 1 (nN l ⟨N, 0⟩ 1) = seg l N (N + 1) from a2, b4, c4, d4, seg_append l (by omega) (by omega), seg_append l (by omega) (by omega), seg_append l (by omega) (by omega)]
  by_cases h114 : c = 114
  · subst h114
    have h : (xP l (if 1 < nN l (nS l ⟨N, 0⟩ 2) 1 then fP (nS l (nS l ⟨N, 0⟩ 2) 1) 200 else nS l (nS l ⟨N, 0⟩ 2) 1)).e = 0 := h
    have hv : ¬ 1 < nN l (nS l ⟨N, 0⟩ 2) 1 := fun hh => by rw [if_pos hh] at h; exact fP_e (by omega) (xP_e h)
    have hb := nN_byte l (nS l ⟨N, 0⟩ 2)
    rw [if_neg hv] at h
    obtain ⟨a1, a2, a3⟩ := nS_sound (w := 2) (nS_e (xP_e h))
    have a1 : nS l ⟨N, 0⟩ 2 = ⟨((N + 2 : Nat) : Int), 0⟩ := a1
    rw [a1] at h hv hb
    obtain ⟨b1, b2, b3⟩ := nS_sound (w := 1) (xP_e h)
    have b1 : nS l ⟨((N + 2 : Nat) : Int), 0⟩ 1 = ⟨((N + 2 + 1 : Nat) : Int), 0⟩ := b1
    rw [b1] at h
    obtain ⟨M, c1, c2, c3, c4⟩ := xP_sound h
    refine ⟨M, ?_, by omega, c3, ?_⟩
    · show xP l (if 1 < nN l (nS l ⟨N, 0⟩ 2) 1 then fP (nS l (nS l ⟨N, 0⟩ 2) 1) 200 else nS l (nS l ⟨N, 0⟩ 2) 1) = _
      rw [a1, if_neg hv, b1, c1]
    · show putL 2 (nN l ⟨N, 0⟩ 2) ++ (putL 1 (if (nN l (nS l ⟨N, 0⟩ 2) 1 == 1) = true then 1 else 0) ++ textL (readS l (if 1 < nN l (nS l ⟨N, 0⟩ 2) 1 then fP (nS l (nS l ⟨N, 0⟩ 2) 1) 200 else nS l (nS l ⟨N, 0⟩ 2) 1).at_)) = _
      rw [a1, if_neg hv, b1]
      simp only
      have e1 : (if (nN l ⟨((N + 2 : Nat) : Int), 0⟩ 1 == 1) = true then (1 : Int) else 0) = nN l ⟨((N + 2 : Nat) : Int), 0⟩ 1 := by
        have : nN l ⟨((N + 2 : Nat) : Int), 0⟩ 1 = 0 ∨ nN l ⟨((N + 2 : Nat) : Int), 0⟩ 1 = 1 := by omega
        rcases this with e | e <;> rw [e] <;> rfl
      rw [e1, show putL 2 (nN l ⟨N, 0⟩ 2) = seg l N (N + 2) from a2, show putL 1 (nN l ⟨((N + 2 : Nat) : Int), 0⟩ 1) = seg l (N + 2) (N + 2 + 1) from b2, c4, seg_append l (by omega) (by omega), seg_append l (by omega) (by omega)]
  by_cases h98 : c = 98
  · subst h98
    have h : (nS l (nS l ⟨N, 0⟩ 6) 1).e = 0 := h
    obtain ⟨a1, a2, a3⟩ := nS_sound (w := 6) (nS_e h)
    have a1 : nS l ⟨N, 0⟩ 6 = ⟨((N + 6 : Nat) : Int), 0⟩ := a1
    rw [a1] at h
    obtain ⟨b1, b2, b3⟩ := nS_sound (w := 1) h
    refine ⟨N + 6 + 1, ?_, by omega, b3, ?_⟩
    · show nS l (nS l ⟨N, 0⟩ 6) 1 = _
      rw [a1]; exact b1
    · show putL 6 (nN l ⟨N, 0⟩ 6) ++ putL 1 (nN l (nS l ⟨N, 0⟩ 6) 1) = _
      rw [a1, show putL 6 (nN l ⟨N, 0⟩ 6) = seg l N (N + 6) from a2, show putL 1 (nN l ⟨((N + 6 : Nat) : Int), 0⟩ 1) = seg l (N + 6) (N + 6 + 1) from b2, seg_append l (by omega) (by omega)]
  by_cases h105 : c = 105
  · subst h105; exact fs_num 6 h rfl rfl
  by_cases h122 : c = 122
  · subst h122; exact fs_num 6 h rfl rfl
  by_cases h99 : c = 99
  · subst h99; exact fs_num 6 h rfl rfl
  by_cases h110 : c = 110
  · subst h110; exact fs_num 6 h rfl rfl
  by_cases h101 : c = 101
  · subst h101
    exact eP_sound h
  by_cases h108 : c = 108
  · subst h108
    obtain rfl := hr rfl
    have h : (repsP l (nN l ⟨N, 0⟩ 1).toNat (nS l ⟨N, 0⟩ 1)).e = 0 := h
    obtain ⟨a1, a2, a3⟩ := nS_sound (w := 1) (reps_e _ h)
    have a1 : nS l ⟨N, 0⟩ 1 = ⟨((N + 1 : Nat) : Int), 0⟩ := a1
    have hb := nN_byte l ⟨N, 0⟩
    rw [a1] at h
    obtain ⟨M, b1, b2, b3, b4, b5⟩ := reps_sound _ a3 h
    refine ⟨M, ?_, by omega, b3, ?_⟩
    · show repsP l (nN l ⟨N, 0⟩ 1).toNat (nS l ⟨N, 0⟩ 1) = _
      rw [a1]; exact b1
    · show putL 1 ((([] ++ repsV l (nN l ⟨N, 0⟩ 1).toNat (nS l ⟨N, 0⟩ 1) : List Rp).length : Nat) : Int) ++ repsL ([] ++ repsV l (nN l ⟨N, 0⟩ 1).toNat (nS l ⟨N, 0⟩ 1)) = _
      rw [a1, List.nil_append, b5, b4, show (((nN l ⟨N, 0⟩ 1).toNat : Nat) : Int) = nN l ⟨N, 0⟩ 1 by omega, show putL 1 (nN l ⟨N, 0⟩ 1) = seg l N (N + 1) from a2, seg_append l (by omega) (by omega)]
  by_cases h107 : c = 107
  · subst h107; exact fs_num 1 h rfl rfl
  by_cases h109 : c = 109
  · subst h109; exact fs_num 1 h rfl rfl
  have e : fldP l c ⟨⟨N, 0⟩, t, rs, y⟩ = ⟨xP l ⟨N, 0⟩, t, rs, readS l N⟩ := by
    unfold fldP
    simp only [if_neg h115, if_neg h111, if_neg h114, if_neg h98, if_neg h105, if_neg h122, if_neg h99, if_neg h110, if_neg h101, if_neg h108, if_neg h107, if_neg h109]
  rw [e] at h ⊢
  obtain ⟨M, m1, m2, m3, m4⟩ := xP_sound h
  refine ⟨M, m1, m2, m3, ?_⟩
  unfold fieldL
  simp only [if_neg h115, if_neg h111, if_neg h114, if_neg h98, if_neg h105, if_neg h122, if_neg h99, if_neg h110, if_neg h101, if_neg h108, if_neg h107, if_neg h109]
  exact m4
end Go.Proofs.YtajgikjmoeemnaaDoor
