/-
  PLAIN: what message's reader finds: all of it; and what was put is found. No program in sight.
-/
import Derived.Test.YtajgikjmoeemnaaDoorPaP
namespace Go.Proofs.YtajgikjmoeemnaaDoor
set_option maxRecDepth 100000
set_option linter.unusedVariables false
set_option linter.unusedSimpArgs false
theorem fld_cases {P : St → Prop} (l : List UInt8) (c : Nat) (x : St) (h : ∀ (s : Ps) (t : Mg) (rs : List Rp) (y : List UInt8), (t.k = x.t.k ∧ t.fr = x.t.fr ∧ t.to = x.t.to) → (c ≠ 108 → rs = x.rs) → P ⟨s, t, rs, y⟩) : P (fldP l c x) := by
  unfold fldP
  by_cases h115 : c = 115
  · simp only [if_pos h115]; exact h _ _ _ _ ⟨rfl, rfl, rfl⟩ (fun hh => rfl)
  simp only [if_neg h115]
  by_cases h111 : c = 111
  · simp only [if_pos h111]; exact h _ _ _ _ ⟨rfl, rfl, rfl⟩ (fun hh => rfl)
  simp only [if_neg h111]
  by_cases h114 : c = 114
  · simp only [if_pos h114]; exact h _ _ _ _ ⟨rfl, rfl, rfl⟩ (fun hh => rfl)
  simp only [if_neg h114]
  by_cases h98 : c = 98
  · simp only [if_pos h98]; exact h _ _ _ _ ⟨rfl, rfl, rfl⟩ (fun hh => rfl)
  simp only [if_neg h98]
  by_cases h105 : c = 105
  · simp only [if_pos h105]; exact h _ _ _ _ ⟨rfl, rfl, rfl⟩ (fun hh => rfl)
  simp only [if_neg h105]
  by_cases h122 : c = 122
  · simp only [if_pos h122]; exact h _ _ _ _ ⟨rfl, rfl, rfl⟩ (fun hh => rfl)
  simp only [if_neg h122]
  by_cases h99 : c = 99
  · simp only [if_pos h99]; exact h _ _ _ _ ⟨rfl, rfl, rfl⟩ (fun hh => rfl)
  simp only [if_neg h99]
  by_cases h110 : c = 110
  · simp only [if_pos h110]; exact h _ _ _ _ ⟨rfl, rfl, rfl⟩ (fun hh => rfl)
  simp only [if_neg h110]
  by_cases h101 : c = 101
  · simp only [if_pos h101]; exact h _ _ _ _ ⟨rfl, rfl, rfl⟩ (fun hh => rfl)
  simp only [if_neg h101]
  by_cases h108 : c = 108
  · simp only [if_pos h108]; exact h _ _ _ _ ⟨rfl, rfl, rfl⟩ (fun hh => absurd h108 hh)
  simp only [if_neg h108]
  by_cases h107 : c = 107
  · simp only [if_pos h107]; exact h _ _ _ _ ⟨rfl, rfl, rfl⟩ (fun hh => rfl)
  simp only [if_neg h107]
  by_cases h109 : c = 109
  · simp only [if_pos h109]; exact h _ _ _ _ ⟨rfl, rfl, rfl⟩ (fun hh => rfl)
  simp only [if_neg h109]
  exact h _ _ _ _ ⟨rfl, rfl, rfl⟩ (fun _ => rfl)
theorem fld_hd (l : List UInt8) (c : Nat) (x : St) : (fldP l c x).t.k = x.t.k ∧ (fldP l c x).t.fr = x.t.fr ∧ (fldP l c x).t.to = x.t.to :=
  fld_cases (P := fun z => z.t.k = x.t.k ∧ z.t.fr = x.t.fr ∧ z.t.to = x.t.to) l c x (fun _ _ _ _ h _ => h)
theorem fld_rs (l : List UInt8) {c : Nat} (h : c ≠ 108) (x : St) : (fldP l c x).rs = x.rs :=
  fld_cases (P := fun z => z.rs = x.rs) l c x (fun _ _ _ _ _ g => g h)
theorem flds_hd (l : List UInt8) : ∀ (fs : List UInt8) (x : St), (fldsP l fs x).t.k = x.t.k ∧ (fldsP l fs x).t.fr = x.t.fr ∧ (fldsP l fs x).t.to = x.t.to
  | [], x => ⟨rfl, rfl, rfl⟩
  | c :: fs, x => by
    have h := flds_hd l fs (fldP l c.toNat x)
    have g := fld_hd l c.toNat x
    exact ⟨h.1.trans g.1, h.2.1.trans g.2.1, h.2.2.trans g.2.2⟩
theorem flds_e {l : List UInt8} : ∀ (fs : List UInt8) {x : St}, (fldsP l fs x).s.e = 0 → x.s.e = 0
  | [], x, h => h
  | c :: fs, x, h => fld_e (flds_e fs (x := fldP l c.toNat x) h)
/-- the fields' bytes, each as it was when it was read -/
def fieldsP (l : List UInt8) : List UInt8 → St → List UInt8
  | [], x => []
  | c :: fs, x => fieldL c.toNat (fldP l c.toNat x).t (fldP l c.toNat x).rs (fldP l c.toNat x).y ++ fieldsP l fs (fldP l c.toNat x)
theorem flds_sound {l : List UInt8} : ∀ (fs : List UInt8) {x : St} {N : Nat}, x.s = ⟨N, 0⟩ → N ≤ l.length → fs.Nodup → ((108 : UInt8) ∈ fs → x.rs = []) → (fldsP l fs x).s.e = 0 →
    ∃ M : Nat, (fldsP l fs x).s = ⟨M, 0⟩ ∧ N ≤ M ∧ M ≤ l.length ∧ fieldsP l fs x = seg l N M
  | [], x, N, hs, hN, hd, hr, h => ⟨N, hs, Nat.le_refl _, hN, (seg_nil l N).symm⟩
  | c :: fs, x, N, hs, hN, hd, hr, h => by
    have h0 : (fldP l c.toNat x).s.e = 0 := flds_e fs h
    have hc : c.toNat = 108 → c = 108 := fun e => by
      have : UInt8.ofNat c.toNat = UInt8.ofNat 108 := by rw [e]
      rwa [UInt8.ofNat_toNat] at this
    obtain ⟨M, m1, m2, m3, m4⟩ := fld_sound hs (fun e => hr (by rw [hc e]; exact List.mem_cons_self ..)) h0
    obtain ⟨hd1, hd2⟩ := List.nodup_cons.1 hd
    obtain ⟨P, p1, p2, p3, p4⟩ := flds_sound fs (x := fldP l c.toNat x) m1 m3 hd2 (fun e => by
      have hne : c.toNat ≠ 108 := fun e2 => by rw [hc e2] at hd1; exact hd1 e
      rw [fld_rs l hne]
      exact hr (List.mem_cons_of_mem _ e)) h
    refine ⟨P, p1, by omega, p3, ?_⟩
    show fieldL c.toNat (fldP l c.toNat x).t (fldP l c.toNat x).rs (fldP l c.toNat x).y ++ fieldsP l fs (fldP l c.toNat x) = _
    rw [m4, p4, seg_append l m2 p2]
theorem lets_nodup (k : Int) : (lets k).Nodup := by
  unfold lets
  split
  · rename_i h
    have : ∀ i : Fin 16, ((fld[i.val]?).getD []).Nodup := by decide +kernel
    exact this ⟨k.toNat, by omega⟩
  · exact List.nodup_nil
set_option maxHeartbeats 8000000 in
theorem keep_field (l : List UInt8) {c d : Nat} (hc : c ∈ [115, 111, 114, 98, 105, 122, 99, 110, 101, 108, 107, 109, 121]) (hne : d ≠ c) (h1 : ¬ (c = 105 ∧ d = 122)) (h2 : ¬ (c = 122 ∧ d = 105)) (hd : d ∈ [115, 111, 114, 98, 105, 122, 99, 110, 101, 108, 107, 109, 121]) (x : St) :
    fieldL c (fldP l d x).t (fldP l d x).rs (fldP l d x).y = fieldL c x.t x.rs x.y := by
  obtain ⟨s, t, rs, y⟩ := x
  simp only [List.mem_cons, List.not_mem_nil, or_false] at hc hd
  rcases hd with rfl | rfl | rfl | rfl | rfl | rfl | rfl | rfl | rfl | rfl | rfl | rfl | rfl
  all_goals
    rcases hc with rfl | rfl | rfl | rfl | rfl | rfl | rfl | rfl | rfl | rfl | rfl | rfl | rfl
  all_goals first
    | exact absurd rfl hne
    | exact absurd ⟨rfl, rfl⟩ h1
    | exact absurd ⟨rfl, rfl⟩ h2
    | rfl
theorem keep_fields (l : List UInt8) {c : Nat} (hc : c ∈ [115, 111, 114, 98, 105, 122, 99, 110, 101, 108, 107, 109, 121]) : ∀ (fs : List UInt8) (hd : ∀ d ∈ fs, d.toNat ≠ c ∧ ¬ (c = 105 ∧ d.toNat = 122) ∧ ¬ (c = 122 ∧ d.toNat = 105) ∧ d.toNat ∈ [115, 111, 114, 98, 105, 122, 99, 110, 101, 108, 107, 109, 121]) (x : St),
    fieldL c (fldsP l fs x).t (fldsP l fs x).rs (fldsP l fs x).y = fieldL c x.t x.rs x.y
  | [], hd, x => rfl
  | d :: fs, hd, x => by
    obtain ⟨h1, h2, h3, h4⟩ := hd d (List.mem_cons_self ..)
    have := keep_fields l hc fs (fun e he => hd e (List.mem_cons_of_mem _ he)) (fldP l d.toNat x)
    exact this.trans (keep_field l hc h1 h2 h3 h4 x)
theorem fields_sameL (l : List UInt8) : ∀ (fs : List UInt8) (h : fs.Nodup) (hc : ∀ c ∈ fs, c.toNat ∈ [115, 111, 114, 98, 105, 122, 99, 110, 101, 108, 107, 109, 121]) (hz : ¬ ((105 : UInt8) ∈ fs ∧ (122 : UInt8) ∈ fs)) (x : St), fieldsP l fs x = fieldsL fs (fldsP l fs x).t (fldsP l fs x).rs (fldsP l fs x).y
  | [], h, hc, hz, x => rfl
  | c :: fs, h, hc, hz, x => by
    obtain ⟨n1, n2⟩ := List.nodup_cons.1 h
    have hu : ∀ {a b : UInt8}, a.toNat = b.toNat → a = b := fun e => UInt8.toNat_inj.1 e
    have ih := fields_sameL l fs n2 (fun d hd => hc d (List.mem_cons_of_mem _ hd)) (fun hh => hz ⟨List.mem_cons_of_mem _ hh.1, List.mem_cons_of_mem _ hh.2⟩) (fldP l c.toNat x)
    have hk := keep_fields l (hc c (List.mem_cons_self ..)) fs (fun d hd => ⟨fun e => n1 (hu e ▸ hd), fun ⟨e1, e2⟩ => hz ⟨by rw [show c = 105 from hu e1]; exact List.mem_cons_self .., by rw [← show d = 122 from hu e2]; exact List.mem_cons_of_mem _ hd⟩,
      fun ⟨e1, e2⟩ => hz ⟨by rw [← show d = 105 from hu e2]; exact List.mem_cons_of_mem _ hd, by rw [show c = 122 from hu e1]; exact List.mem_cons_self ..⟩, hc d (List.mem_cons_of_mem _ hd)⟩) (fldP l c.toNat x)
    show fieldL c.toNat (fldP l c.toNat x).t (fldP l c.toNat x).rs (fldP l c.toNat x).y ++ fieldsP l fs (fldP l c.toNat x) = fieldL c.toNat (fldsP l fs (fldP l c.toNat x)).t (fldsP l fs (fldP l c.toNat x)).rs (fldsP l fs (fldP l c.toNat x)).y ++ fieldsL fs (fldsP l fs (fldP l c.toNat x)).t (fldsP l fs (fldP l c.toNat x)).rs (fldsP l fs (fldP l c.toNat x)).y
    rw [ih, hk]
theorem lets_iz (k : Int) : ¬ ((105 : UInt8) ∈ lets k ∧ (122 : UInt8) ∈ lets k) := by
  unfold lets
  split
  · rename_i h
    have : ∀ i : Fin 16, ¬ ((105 : UInt8) ∈ (fld[i.val]?).getD [] ∧ (122 : UInt8) ∈ (fld[i.val]?).getD []) := by decide +kernel
    exact this ⟨k.toNat, by omega⟩
  · simp
theorem fields_same (l : List UInt8) (k : Int) (x : St) : fieldsP l (lets k) x = fieldsL (lets k) (fldsP l (lets k) x).t (fldsP l (lets k) x).rs (fldsP l (lets k) x).y :=
  fields_sameL l (lets k) (lets_nodup k) (fun c hc => (lets_all k c hc).2) (lets_iz k) x
theorem head_e {l : List UInt8} (h : (headP l).s.e = 0) : (headP l).s = ⟨((3 : Nat) : Int), 0⟩ ∧ 3 ≤ l.length ∧ (putL 1 (headP l).t.k ++ putL 1 (whoN (headP l).t.fr)) ++ putL 1 (whoN (headP l).t.to) = seg l 0 3 := by
  have h : (nS l (nS l (nS l ⟨((0 : Nat) : Int), 0⟩ 1) 1) 1).e = 0 := h
  have hw : ∀ s : Ps, whoN (whoV (nN l s 1)) = nN l s 1 := fun s => by
    have := nN_byte l s
    unfold whoV whoN
    split <;> split <;> omega
  obtain ⟨a1, a2, a3⟩ := nS_sound (w := 1) (nS_e (nS_e h))
  have a1 : nS l ⟨((0 : Nat) : Int), 0⟩ 1 = ⟨((1 : Nat) : Int), 0⟩ := a1
  rw [a1] at h
  obtain ⟨b1, b2, b3⟩ := nS_sound (w := 1) (nS_e h)
  have b1 : nS l ⟨((1 : Nat) : Int), 0⟩ 1 = ⟨((2 : Nat) : Int), 0⟩ := b1
  rw [b1] at h
  obtain ⟨c1, c2, c3⟩ := nS_sound (w := 1) h
  refine ⟨?_, c3, ?_⟩
  · show nS l (nS l (nS l ⟨((0 : Nat) : Int), 0⟩ 1) 1) 1 = _
    rw [a1, b1]; exact c1
  · show (putL 1 (nN l ⟨((0 : Nat) : Int), 0⟩ 1) ++ putL 1 (whoN (whoV (nN l (nS l ⟨((0 : Nat) : Int), 0⟩ 1) 1)))) ++ putL 1 (whoN (whoV (nN l (nS l (nS l ⟨((0 : Nat) : Int), 0⟩ 1) 1) 1))) = _
    rw [hw, hw, a1, b1, show putL 1 (nN l ⟨((0 : Nat) : Int), 0⟩ 1) = seg l 0 1 from a2, show putL 1 (nN l ⟨((1 : Nat) : Int), 0⟩ 1) = seg l 1 2 from b2, show putL 1 (nN l ⟨((2 : Nat) : Int), 0⟩ 1) = seg l 2 3 from c2, seg_append l (by omega) (by omega), seg_append l (by omega) (by omega)]
theorem all_sound {l : List UInt8} (h : (allP l).s.e = 0) : ∃ M : Nat, (allP l).s = ⟨M, 0⟩ ∧ M ≤ l.length ∧ prL (allP l).t (allP l).rs (allP l).y = l.take M := by
  obtain ⟨a1, a2, a3⟩ := head_e (flds_e _ h)
  obtain ⟨M, m1, m2, m3, m4⟩ := flds_sound (lets (headP l).t.k) a1 a2 (lets_nodup _) (fun _ => rfl) h
  refine ⟨M, m1, m3, ?_⟩
  obtain ⟨k1, k2, k3⟩ := flds_hd l (lets (headP l).t.k) (headP l)
  unfold prL
  rw [show (allP l).t.k = (headP l).t.k from k1, show (allP l).t.fr = (headP l).t.fr from k2, show (allP l).t.to = (headP l).t.to from k3, a3]
  have := fields_same l (headP l).t.k (headP l)
  unfold allP
  rw [← this, m4, seg_append l (by omega) m2]
  unfold seg
  simp

/-! what was put is found -/
theorem nS_comp {w n : Int} (h : fitsB w n = true) (a c : List UInt8) : nS (a ++ (putL w n ++ c)) ⟨a.length, 0⟩ w = ⟨((a ++ putL w n).length : Nat), 0⟩ ∧ nN (a ++ (putL w n ++ c)) ⟨a.length, 0⟩ w = n := by
  obtain ⟨h1, h2, h3⟩ := get_put a c w n h
  unfold nS nN
  simp only
  rw [if_pos h1, h3]
  exact ⟨rfl, h2⟩
theorem xP_comp {s : List UInt8} (h : s.length ≤ 255) (a c : List UInt8) : xP (a ++ (textL s ++ c)) ⟨a.length, 0⟩ = ⟨((a ++ textL s).length : Nat), 0⟩ ∧ readS (a ++ (textL s ++ c)) a.length = s := by
  obtain ⟨h1, h2, h3⟩ := read_text a c s h
  unfold xP
  simp only
  rw [if_pos h1, h3]
  exact ⟨rfl, h2⟩
theorem eP_comp {e : En} (h : mayB e = true) (a c : List UInt8) : eP (a ++ (bytesL e ++ c)) ⟨a.length, 0⟩ = ⟨((a ++ bytesL e).length : Nat), 0⟩ ∧ eV (a ++ (bytesL e ++ c)) ⟨a.length, 0⟩ = e := by
  obtain ⟨h1, h2, h3⟩ := er_put h a c
  have hb : bytesL e = entL e := by unfold bytesL; rw [h, if_pos rfl]
  rw [hb]
  unfold eP eV
  simp only
  rw [if_pos h1, h3]
  exact ⟨rfl, h2⟩
theorem fits2 {n : Int} (h0 : 0 ≤ n) (h : n < 65536) : fitsB 2 n = true := by simp [fitsB, many, h0, h]
theorem balM_bq {r p n : Int} (h : balM r p n = true) : 1 ≤ r ∧ r ≤ 1099511627776 ∧ 0 ≤ p ∧ p < 7 := by
  simp only [balM, Bool.and_eq_true, decide_eq_true_eq] at h
  have : n = 3 ∨ n = 5 ∨ n = 7 := by simpa [crowdB] using h.1
  omega
theorem rep_comp {x : Rp} {n : Int} (h : repB x n = true) (a c : List UInt8) : repP (a ++ (repL x ++ c)) ⟨a.length, 0⟩ = ⟨((a ++ repL x).length : Nat), 0⟩ ∧ repV (a ++ (repL x ++ c)) ⟨a.length, 0⟩ = x := by
  obtain ⟨ix, st, r, p, e⟩ := x
  simp only [repB, numB, Bool.and_eq_true, Bool.or_eq_true, decide_eq_true_eq, beq_iff_eq] at h
  obtain ⟨⟨h1, h2⟩, h3⟩ := h
  have f6 := fits6 (n := ix) (by omega) (by omega)
  have hst : 2 ≤ st ∧ st ≤ 4 := by rcases h3 with ⟨h3, _⟩ | ⟨h3, _⟩ | ⟨h3, _⟩ <;> omega
  have f1 := fits1 (n := st) (by omega) (by omega)
  obtain ⟨T, hT⟩ : ∃ T, (if st = 4 then [] else putL 6 r ++ putL 1 p) ++ (if st = 2 then bytesL e else []) = T := ⟨_, rfl⟩
  have hL : repL ⟨ix, st, r, p, e⟩ = putL 6 ix ++ (putL 1 st ++ T) := by unfold repL; simp only; rw [hT, List.append_assoc]
  rw [hL]
  obtain ⟨l, hl⟩ : ∃ l, a ++ ((putL 6 ix ++ (putL 1 st ++ T)) ++ c) = l := ⟨_, rfl⟩
  obtain ⟨a1, a2⟩ := nS_comp f6 a ((putL 1 st ++ T) ++ c)
  obtain ⟨b1, b2⟩ := nS_comp f1 (a ++ putL 6 ix) (T ++ c)
  have e1 : a ++ (putL 6 ix ++ ((putL 1 st ++ T) ++ c)) = l := by rw [← hl]; simp only [List.append_assoc]
  have e2 : (a ++ putL 6 ix) ++ (putL 1 st ++ (T ++ c)) = l := by rw [← hl]; simp only [List.append_assoc]
  rw [e1] at a1 a2
  rw [e2] at b1 b2
  rw [hl]
  unfold repP repV
  simp only [a1, a2, b1, b2]
  rcases h3 with ⟨rfl, hb, hm⟩ | ⟨rfl, hb, hz⟩ | ⟨rfl, ⟨rfl, rfl⟩, hz⟩
  · obtain ⟨q1, q2, q3, q4⟩ := balM_bq hb
    rw [if_neg (by decide), if_pos rfl] at hT
    obtain ⟨c1, c2⟩ := nS_comp (fits6 (n := r) (by omega) (by omega)) ((a ++ putL 6 ix) ++ putL 1 2) (putL 1 p ++ (bytesL e ++ c))
    obtain ⟨d1, d2⟩ := nS_comp (fits1 (n := p) (by omega) (by omega)) (((a ++ putL 6 ix) ++ putL 1 2) ++ putL 6 r) (bytesL e ++ c)
    obtain ⟨g1, g2⟩ := eP_comp hm ((((a ++ putL 6 ix) ++ putL 1 2) ++ putL 6 r) ++ putL 1 p) c
    have e3 : ((a ++ putL 6 ix) ++ putL 1 2) ++ (putL 6 r ++ (putL 1 p ++ (bytesL e ++ c))) = l := by rw [← hl, ← hT]; simp only [List.append_assoc]
    have e4 : (((a ++ putL 6 ix) ++ putL 1 2) ++ putL 6 r) ++ (putL 1 p ++ (bytesL e ++ c)) = l := by rw [← hl, ← hT]; simp only [List.append_assoc]
    have e5 : ((((a ++ putL 6 ix) ++ putL 1 2) ++ putL 6 r) ++ putL 1 p) ++ (bytesL e ++ c) = l := by rw [← hl, ← hT]; simp only [List.append_assoc]
    rw [e3] at c1 c2
    rw [e4] at d1 d2
    rw [e5] at g1 g2
    rw [c1, d1, c2, d2, g1, g2, ← hT]
    refine ⟨?_, rfl⟩
    show (⟨_, 0⟩ : Ps) = _
    simp only [List.append_assoc]
  · obtain ⟨q1, q2, q3, q4⟩ := balM_bq hb
    rw [if_neg (by decide), if_neg (by decide), List.append_nil] at hT
    obtain rfl := enEq_iff.1 hz
    obtain ⟨c1, c2⟩ := nS_comp (fits6 (n := r) (by omega) (by omega)) ((a ++ putL 6 ix) ++ putL 1 3) (putL 1 p ++ c)
    obtain ⟨d1, d2⟩ := nS_comp (fits1 (n := p) (by omega) (by omega)) (((a ++ putL 6 ix) ++ putL 1 3) ++ putL 6 r) c
    have e3 : ((a ++ putL 6 ix) ++ putL 1 3) ++ (putL 6 r ++ (putL 1 p ++ c)) = l := by rw [← hl, ← hT]; simp only [List.append_assoc]
    have e4 : (((a ++ putL 6 ix) ++ putL 1 3) ++ putL 6 r) ++ (putL 1 p ++ c) = l := by rw [← hl, ← hT]; simp only [List.append_assoc]
    rw [e3] at c1 c2
    rw [e4] at d1 d2
    rw [c1, d1, c2, d2, ← hT]
    refine ⟨?_, rfl⟩
    show (⟨_, 0⟩ : Ps) = _
    simp only [List.append_assoc]
  · rw [if_pos rfl, if_neg (by decide), List.append_nil] at hT
    obtain rfl := enEq_iff.1 hz
    rw [← hT]
    refine ⟨?_, rfl⟩
    show (⟨_, 0⟩ : Ps) = _
    simp only [List.append_nil, List.append_assoc]
theorem reps_comp {n : Int} : ∀ (rs : List Rp) (h : ∀ x ∈ rs, repB x n = true) (a c : List UInt8), repsP (a ++ (repsL rs ++ c)) rs.length ⟨a.length, 0⟩ = ⟨((a ++ repsL rs).length : Nat), 0⟩ ∧ repsV (a ++ (repsL rs ++ c)) rs.length ⟨a.length, 0⟩ = rs
  | [], h, a, c => ⟨by simp [repsP, repsL], rfl⟩
  | x :: rs, h, a, c => by
    obtain ⟨a1, a2⟩ := rep_comp (h x (List.mem_cons_self ..)) a (repsL rs ++ c)
    obtain ⟨b1, b2⟩ := reps_comp rs (fun y hy => h y (List.mem_cons_of_mem _ hy)) (a ++ repL x) c
    have e0 : repsL (x :: rs) = repL x ++ repsL rs := rfl
    have e1 : a ++ (repsL (x :: rs) ++ c) = a ++ (repL x ++ (repsL rs ++ c)) := by rw [e0, List.append_assoc]
    have e2 : a ++ (repsL (x :: rs) ++ c) = (a ++ repL x) ++ (repsL rs ++ c) := by rw [e0]; simp only [List.append_assoc]
    rw [← e1] at a1 a2
    rw [← e2] at b1 b2
    rw [List.length_cons]
    unfold repsP repsV
    simp only [if_true]
    rw [a1, a2, b1, b2, e0, List.append_assoc]
    exact ⟨rfl, rfl⟩
/-- what a letter makes of the reports and the bytes -/
def rsC (c : Nat) (rs r : List Rp) : List Rp := if c = 108 then r ++ rs else r
def yC (c : Nat) (y r : List UInt8) : List UInt8 := if c = 121 then y else r
def FC (l : List UInt8) (c : Nat) (m : Mg) (rs : List Rp) (y : List UInt8) (a : List UInt8) (x : St) : Prop :=
  (fldP l c x).s = ⟨((a ++ fieldL c m rs y).length : Nat), 0⟩ ∧ nrm (fldP l c x).t = nrm (keepM c x.t m) ∧ (fldP l c x).rs = rsC c rs x.rs ∧ (fldP l c x).y = yC c y x.y
theorem fld_comp {m : Mg} {rs : List Rp} {y : List UInt8} {n : Int} {c : Nat} (hN : MgN m) (hyn : m.yn = y.length) (hct : c = 109 → 0 ≤ m.ct ∧ m.ct < 256) (hc : c ∈ [115, 111, 114, 98, 105, 122, 99, 110, 101, 108, 107, 109, 121]) (hk : keepB c m rs n = true)
    (a rest : List UInt8) (x : St) (hs : x.s = ⟨a.length, 0⟩) : FC (a ++ (fieldL c m rs y ++ rest)) c m rs y a x := by
  obtain ⟨s, t, r0, y0⟩ := x
  simp only at hs
  subst hs
  simp only [List.mem_cons, List.not_mem_nil, or_false] at hc
  rcases hc with rfl | rfl | rfl | rfl | rfl | rfl | rfl | rfl | rfl | rfl | rfl | rfl | rfl
  · obtain ⟨h1, h2⟩ := num1 hk
    obtain ⟨a1, a2⟩ := nS_comp (fits6 (n := m.sq) h1 (by omega)) a rest
    exact ⟨a1, by show nrm { t with sq := nN (a ++ (putL 6 m.sq ++ rest)) ⟨a.length, 0⟩ 6 } = _; rw [a2]; rfl, rfl, rfl⟩
  · have hk : (decide ((m.o0.size : Int) ≤ 16) && (decide ((m.o1.size : Int) ≤ 16) && decide ((m.o2.size : Int) ≤ 16))) = true := hk
    simp only [Bool.and_eq_true, decide_eq_true_eq] at hk
    obtain ⟨k0, k1, k2⟩ := hk
    have z0 : m.o0.data.toList.length ≤ 255 := by rw [size_len]; omega
    have z1 : m.o1.data.toList.length ≤ 255 := by rw [size_len]; omega
    have z2 : m.o2.data.toList.length ≤ 255 := by rw [size_len]; omega
    have hu := hN.uo
    obtain ⟨a1, a2⟩ := nS_comp (fits1 hu.1 hu.2) a (textL m.o0.data.toList ++ (textL m.o1.data.toList ++ (textL m.o2.data.toList ++ rest)))
    obtain ⟨b1, b2⟩ := xP_comp z0 (a ++ putL 1 m.ok) (textL m.o1.data.toList ++ (textL m.o2.data.toList ++ rest))
    obtain ⟨c1, c2⟩ := xP_comp z1 ((a ++ putL 1 m.ok) ++ textL m.o0.data.toList) (textL m.o2.data.toList ++ rest)
    obtain ⟨d1, d2⟩ := xP_comp z2 (((a ++ putL 1 m.ok) ++ textL m.o0.data.toList) ++ textL m.o1.data.toList) rest
    have hF : fieldL 111 m rs y = putL 1 m.ok ++ (textL m.o0.data.toList ++ (textL m.o1.data.toList ++ textL m.o2.data.toList)) := rfl
    rw [hF]
    obtain ⟨l, hl⟩ : ∃ l, a ++ ((putL 1 m.ok ++ (textL m.o0.data.toList ++ (textL m.o1.data.toList ++ textL m.o2.data.toList))) ++ rest) = l := ⟨_, rfl⟩
    have e0 : a ++ (putL 1 m.ok ++ (textL m.o0.data.toList ++ (textL m.o1.data.toList ++ (textL m.o2.data.toList ++ rest)))) = l := by rw [← hl]; simp only [List.append_assoc]
    have e1 : (a ++ putL 1 m.ok) ++ (textL m.o0.data.toList ++ (textL m.o1.data.toList ++ (textL m.o2.data.toList ++ rest))) = l := by rw [← hl]; simp only [List.append_assoc]
    have e2 : ((a ++ putL 1 m.ok) ++ textL m.o0.data.toList) ++ (textL m.o1.data.toList ++ (textL m.o2.data.toList ++ rest)) = l := by rw [← hl]; simp only [List.append_assoc]
    have e3 : (((a ++ putL 1 m.ok) ++ textL m.o0.data.toList) ++ textL m.o1.data.toList) ++ (textL m.o2.data.toList ++ rest) = l := by rw [← hl]; simp only [List.append_assoc]
    rw [e0] at a1 a2
    rw [e1] at b1 b2
    rw [e2] at c1 c2
    rw [e3] at d1 d2
    rw [hl]
    refine ⟨?_, ?_, rfl, rfl⟩
    · show xP l (xP l (xP l (nS l ⟨a.length, 0⟩ 1))) = _
      rw [a1, b1, c1, d1, hF]
      simp only [List.append_assoc]
    · show nrm { t with ok := nN l ⟨a.length, 0⟩ 1, o0 := bs (readS l (nS l ⟨a.length, 0⟩ 1).at_), o1 := bs (readS l (xP l (nS l ⟨a.length, 0⟩ 1)).at_), o2 := bs (readS l (xP l (xP l (nS l ⟨a.length, 0⟩ 1))).at_) } = _
      rw [a2, a1]
      simp only
      rw [b2, b1]
      simp only
      rw [c2, c1]
      simp only
      rw [d2, bs_self, bs_self, bs_self]
      rfl
  · have hk : (decide (0 ≤ m.re) && (decide (m.re ≤ 999) && decide ((m.rv.size : Int) ≤ 16))) = true := hk
    simp only [Bool.and_eq_true, decide_eq_true_eq] at hk
    obtain ⟨k0, k1, k2⟩ := hk
    have z0 : m.rv.data.toList.length ≤ 255 := by rw [size_len]; omega
    obtain ⟨v, hv⟩ : ∃ v : Int, (if m.rf then (1 : Int) else 0) = v := ⟨_, rfl⟩
    have hv01 : (v = 0 ∨ v = 1) ∧ (v == 1) = m.rf := by rw [← hv]; cases m.rf <;> simp
    obtain ⟨a1, a2⟩ := nS_comp (fits2 (n := m.re) k0 (by omega)) a (putL 1 v ++ (textL m.rv.data.toList ++ rest))
    obtain ⟨b1, b2⟩ := nS_comp (fits1 (n := v) (by omega) (by omega)) (a ++ putL 2 m.re) (textL m.rv.data.toList ++ rest)
    obtain ⟨c1, c2⟩ := xP_comp z0 ((a ++ putL 2 m.re) ++ putL 1 v) rest
    have hF : fieldL 114 m rs y = putL 2 m.re ++ (putL 1 v ++ textL m.rv.data.toList) := by rw [← hv]; rfl
    rw [hF]
    obtain ⟨l, hl⟩ : ∃ l, a ++ ((putL 2 m.re ++ (putL 1 v ++ textL m.rv.data.toList)) ++ rest) = l := ⟨_, rfl⟩
    have e0 : a ++ (putL 2 m.re ++ (putL 1 v ++ (textL m.rv.data.toList ++ rest))) = l := by rw [← hl]; simp only [List.append_assoc]
    have e1 : (a ++ putL 2 m.re) ++ (putL 1 v ++ (textL m.rv.data.toList ++ rest)) = l := by rw [← hl]; simp only [List.append_assoc]
    have e2 : ((a ++ putL 2 m.re) ++ putL 1 v) ++ (textL m.rv.data.toList ++ rest) = l := by rw [← hl]; simp only [List.append_assoc]
    rw [e0] at a1 a2
    rw [e1] at b1 b2
    rw [e2] at c1 c2
    rw [hl]
    have hn1 : ¬ 1 < v := by omega
    refine ⟨?_, ?_, rfl, rfl⟩
    · show xP l (if 1 < nN l (nS l ⟨a.length, 0⟩ 2) 1 then fP (nS l (nS l ⟨a.length, 0⟩ 2) 1) 200 else nS l (nS l ⟨a.length, 0⟩ 2) 1) = _
      rw [a1, b2, if_neg hn1, b1, c1, hF]
      simp only [List.append_assoc]
    · show nrm { t with re := nN l ⟨a.length, 0⟩ 2, rf := nN l (nS l ⟨a.length, 0⟩ 2) 1 == 1, rv := bs (readS l (if 1 < nN l (nS l ⟨a.length, 0⟩ 2) 1 then fP (nS l (nS l ⟨a.length, 0⟩ 2) 1) 200 else nS l (nS l ⟨a.length, 0⟩ 2) 1).at_) } = _
      rw [a2, a1, b2, if_neg hn1, b1]
      simp only
      rw [c2, bs_self, hv01.2]
      rfl
  · obtain ⟨h1, h2, h3, h4⟩ := balM_bq (show balM m.br m.bp n = true from hk)
    obtain ⟨a1, a2⟩ := nS_comp (fits6 (n := m.br) (by omega) (by omega)) a (putL 1 m.bp ++ rest)
    obtain ⟨b1, b2⟩ := nS_comp (fits1 (n := m.bp) (by omega) (by omega)) (a ++ putL 6 m.br) rest
    have hF : fieldL 98 m rs y = putL 6 m.br ++ putL 1 m.bp := rfl
    rw [hF]
    obtain ⟨l, hl⟩ : ∃ l, a ++ ((putL 6 m.br ++ putL 1 m.bp) ++ rest) = l := ⟨_, rfl⟩
    have e0 : a ++ (putL 6 m.br ++ (putL 1 m.bp ++ rest)) = l := by rw [← hl]; simp only [List.append_assoc]
    have e1 : (a ++ putL 6 m.br) ++ (putL 1 m.bp ++ rest) = l := by rw [← hl]; simp only [List.append_assoc]
    rw [e0] at a1 a2
    rw [e1] at b1 b2
    rw [hl]
    refine ⟨?_, ?_, rfl, rfl⟩
    · show nS l (nS l ⟨a.length, 0⟩ 6) 1 = _
      rw [a1, b1, hF, List.append_assoc]
    · show nrm { t with br := nN l ⟨a.length, 0⟩ 6, bp := nN l (nS l ⟨a.length, 0⟩ 6) 1 } = _
      rw [a2, a1, b2]
      rfl
  · obtain ⟨h1, h2⟩ := num1 hk
    obtain ⟨a1, a2⟩ := nS_comp (fits6 (n := m.ix) h1 (by omega)) a rest
    exact ⟨a1, by show nrm { t with ix := nN (a ++ (putL 6 m.ix ++ rest)) ⟨a.length, 0⟩ 6 } = _; rw [a2]; rfl, rfl, rfl⟩
  · obtain ⟨h1, h2⟩ := num0 hk
    obtain ⟨a1, a2⟩ := nS_comp (fits6 (n := m.ix) h1 (by omega)) a rest
    exact ⟨a1, by show nrm { t with ix := nN (a ++ (putL 6 m.ix ++ rest)) ⟨a.length, 0⟩ 6 } = _; rw [a2]; rfl, rfl, rfl⟩
  · obtain ⟨h1, h2⟩ := num0 hk
    obtain ⟨a1, a2⟩ := nS_comp (fits6 (n := m.cm) h1 (by omega)) a rest
    exact ⟨a1, by show nrm { t with cm := nN (a ++ (putL 6 m.cm ++ rest)) ⟨a.length, 0⟩ 6 } = _; rw [a2]; rfl, rfl, rfl⟩
  · obtain ⟨h1, h2⟩ := num0 hk
    obtain ⟨a1, a2⟩ := nS_comp (fits6 (n := m.nc) h1 (by omega)) a rest
    exact ⟨a1, by show nrm { t with nc := nN (a ++ (putL 6 m.nc ++ rest)) ⟨a.length, 0⟩ 6 } = _; rw [a2]; rfl, rfl, rfl⟩
  · obtain ⟨a1, a2⟩ := eP_comp (show mayB m.e = true from hk) a rest
    exact ⟨a1, by show nrm { t with e := eV (a ++ (bytesL m.e ++ rest)) ⟨a.length, 0⟩ } = _; rw [a2]; rfl, rfl, rfl⟩
  · have hk : repsB rs n = true := hk
    simp only [repsB, Bool.and_eq_true, decide_eq_true_eq] at hk
    obtain ⟨a1, a2⟩ := nS_comp (fits1 (n := (rs.length : Int)) (by omega) (by omega)) a (repsL rs ++ rest)
    obtain ⟨b1, b2⟩ := reps_comp rs (reps_all _ _ _ hk.1) (a ++ putL 1 (rs.length : Int)) rest
    have hF : fieldL 108 m rs y = putL 1 (rs.length : Int) ++ repsL rs := rfl
    rw [hF]
    obtain ⟨l, hl⟩ : ∃ l, a ++ ((putL 1 (rs.length : Int) ++ repsL rs) ++ rest) = l := ⟨_, rfl⟩
    have e0 : a ++ (putL 1 (rs.length : Int) ++ (repsL rs ++ rest)) = l := by rw [← hl]; simp only [List.append_assoc]
    have e1 : (a ++ putL 1 (rs.length : Int)) ++ (repsL rs ++ rest) = l := by rw [← hl]; simp only [List.append_assoc]
    rw [e0] at a1 a2
    rw [e1] at b1 b2
    rw [hl]
    refine ⟨?_, rfl, ?_, rfl⟩
    · show repsP l (nN l ⟨a.length, 0⟩ 1).toNat (nS l ⟨a.length, 0⟩ 1) = _
      rw [a2, a1, Int.toNat_natCast, b1, hF, List.append_assoc]
    · show r0 ++ repsV l (nN l ⟨a.length, 0⟩ 1).toNat (nS l ⟨a.length, 0⟩ 1) = _
      rw [a2, a1, Int.toNat_natCast, b2]
      rfl
  · have hk : (decide (0 ≤ m.ck) && decide (m.ck < 8)) = true := hk
    simp only [Bool.and_eq_true, decide_eq_true_eq] at hk
    obtain ⟨a1, a2⟩ := nS_comp (fits1 (n := m.ck) (by omega) (by omega)) a rest
    exact ⟨a1, by show nrm { t with ck := nN (a ++ (putL 1 m.ck ++ rest)) ⟨a.length, 0⟩ 1 } = _; rw [a2]; rfl, rfl, rfl⟩
  · obtain ⟨h1, h2⟩ := hct rfl
    obtain ⟨a1, a2⟩ := nS_comp (fits1 (n := m.ct) h1 h2) a rest
    exact ⟨a1, by show nrm { t with ct := nN (a ++ (putL 1 m.ct ++ rest)) ⟨a.length, 0⟩ 1 } = _; rw [a2]; rfl, rfl, rfl⟩
  · have hk : (decide (1 ≤ (m.yn : Int)) && decide ((m.yn : Int) ≤ 80)) = true := hk
    simp only [Bool.and_eq_true, decide_eq_true_eq] at hk
    obtain ⟨a1, a2⟩ := xP_comp (s := y) (by omega) a rest
    exact ⟨a1, rfl, rfl, a2⟩
def rsF (rs : List Rp) (fs : List UInt8) (r : List Rp) : List Rp := fs.foldl (fun r c => rsC c.toNat rs r) r
def yF (y : List UInt8) (fs : List UInt8) (r : List UInt8) : List UInt8 := fs.foldl (fun r c => yC c.toNat y r) r
theorem flds_comp {m : Mg} {rs : List Rp} {y : List UInt8} {n : Int} (hN : MgN m) (hyn : m.yn = y.length) : ∀ (fs : List UInt8) (hct : (109 : UInt8) ∈ fs → 0 ≤ m.ct ∧ m.ct < 256) (hc : ∀ c ∈ fs, c.toNat ∈ [115, 111, 114, 98, 105, 122, 99, 110, 101, 108, 107, 109, 121]) (hk : ∀ c ∈ fs, keepB c.toNat m rs n = true)
    (a rest : List UInt8) (x : St) (hs : x.s = ⟨a.length, 0⟩),
    (fldsP (a ++ (fieldsL fs m rs y ++ rest)) fs x).s = ⟨((a ++ fieldsL fs m rs y).length : Nat), 0⟩ ∧ nrm (fldsP (a ++ (fieldsL fs m rs y ++ rest)) fs x).t = nrm (keepL fs x.t m) ∧ (fldsP (a ++ (fieldsL fs m rs y ++ rest)) fs x).rs = rsF rs fs x.rs ∧ (fldsP (a ++ (fieldsL fs m rs y ++ rest)) fs x).y = yF y fs x.y
  | [], hct, hc, hk, a, rest, x, hs => ⟨by show x.s = _; rw [hs]; simp [fieldsL], rfl, rfl, rfl⟩
  | c :: fs, hct, hc, hk, a, rest, x, hs => by
    have h109 : c.toNat = 109 → 0 ≤ m.ct ∧ m.ct < 256 := fun e => hct (by
      have : UInt8.ofNat c.toNat = UInt8.ofNat 109 := by rw [e]
      rw [UInt8.ofNat_toNat] at this
      rw [this]; exact List.mem_cons_self ..)
    have e0 : fieldsL (c :: fs) m rs y = fieldL c.toNat m rs y ++ fieldsL fs m rs y := rfl
    obtain ⟨l, hl⟩ : ∃ l, a ++ (fieldsL (c :: fs) m rs y ++ rest) = l := ⟨_, rfl⟩
    have e1 : a ++ (fieldL c.toNat m rs y ++ (fieldsL fs m rs y ++ rest)) = l := by rw [← hl, e0]; simp only [List.append_assoc]
    have e2 : (a ++ fieldL c.toNat m rs y) ++ (fieldsL fs m rs y ++ rest) = l := by rw [← hl, e0]; simp only [List.append_assoc]
    have h1 := fld_comp hN hyn h109 (hc c (List.mem_cons_self ..)) (hk c (List.mem_cons_self ..)) a (fieldsL fs m rs y ++ rest) x hs
    rw [e1] at h1
    obtain ⟨a1, a2, a3, a4⟩ := h1
    obtain ⟨b1, b2, b3, b4⟩ := flds_comp hN hyn fs (fun e => hct (List.mem_cons_of_mem _ e)) (fun d hd => hc d (List.mem_cons_of_mem _ hd)) (fun d hd => hk d (List.mem_cons_of_mem _ hd)) (a ++ fieldL c.toNat m rs y) rest (fldP l c.toNat x) a1
    rw [e2] at b1 b2 b3 b4
    rw [hl]
    refine ⟨?_, ?_, ?_, ?_⟩
    · show (fldsP l fs (fldP l c.toNat x)).s = _
      rw [b1, e0, List.append_assoc]
    · show nrm (fldsP l fs (fldP l c.toNat x)).t = nrm (keepL fs (keepM c.toNat x.t m) m)
      rw [b2]
      exact nrm_keepL rfl fs a2
    · show (fldsP l fs (fldP l c.toNat x)).rs = rsF rs fs (rsC c.toNat rs x.rs)
      rw [b3, a3]
    · show (fldsP l fs (fldP l c.toNat x)).y = yF y fs (yC c.toNat y x.y)
      rw [b4, a4]
theorem head_comp {k fr to : Int} (hk : 0 ≤ k ∧ k < 256) (hf : -4 ≤ fr ∧ fr ≤ 6) (ht : -4 ≤ to ∧ to ≤ 6) (rest : List UInt8) :
    headP (((putL 1 k ++ putL 1 (whoN fr)) ++ putL 1 (whoN to)) ++ rest) = ⟨⟨((((putL 1 k ++ putL 1 (whoN fr)) ++ putL 1 (whoN to)).length : Nat) : Int), 0⟩, { mg0 with k := k, fr := fr, to := to }, [], []⟩ := by
  have hw : ∀ i : Int, -4 ≤ i ∧ i ≤ 6 → fitsB 1 (whoN i) = true ∧ whoV (whoN i) = i := fun i hi => by
    unfold whoN whoV
    refine ⟨fits1 (by split <;> omega) (by split <;> omega), by split <;> split <;> omega⟩
  obtain ⟨f1, f2⟩ := hw fr hf
  obtain ⟨g1, g2⟩ := hw to ht
  obtain ⟨a1, a2⟩ := nS_comp (fits1 hk.1 hk.2) [] (putL 1 (whoN fr) ++ (putL 1 (whoN to) ++ rest))
  obtain ⟨b1, b2⟩ := nS_comp f1 (putL 1 k) (putL 1 (whoN to) ++ rest)
  obtain ⟨c1, c2⟩ := nS_comp g1 (putL 1 k ++ putL 1 (whoN fr)) rest
  obtain ⟨l, hl⟩ : ∃ l, ((putL 1 k ++ putL 1 (whoN fr)) ++ putL 1 (whoN to)) ++ rest = l := ⟨_, rfl⟩
  have e0 : [] ++ (putL 1 k ++ (putL 1 (whoN fr) ++ (putL 1 (whoN to) ++ rest))) = l := by rw [← hl]; simp only [List.append_assoc, List.nil_append]
  have e1 : putL 1 k ++ (putL 1 (whoN fr) ++ (putL 1 (whoN to) ++ rest)) = l := by rw [← hl]; simp only [List.append_assoc]
  have e2 : (putL 1 k ++ putL 1 (whoN fr)) ++ (putL 1 (whoN to) ++ rest) = l := by rw [← hl]; simp only [List.append_assoc]
  rw [e0] at a1 a2
  rw [e1] at b1 b2
  rw [e2] at c1 c2
  rw [hl]
  have a1 : nS l ⟨0, 0⟩ 1 = ⟨((putL 1 k).length : Nat), 0⟩ := a1
  have a2 : nN l ⟨0, 0⟩ 1 = k := a2
  unfold headP
  simp only [a1, a2, b1, b2, c1, c2, f2, g2]
theorem all_comp {m : Mg} {rs : List Rp} {y : List UInt8} {n : Int} (hN : MgN m) (hyn : m.yn = y.length) (h : mayM m rs y n = true) (rest : List UInt8) :
    (allP (prL m rs y ++ rest)).s = ⟨((prL m rs y).length : Nat), 0⟩ ∧ nrm (allP (prL m rs y ++ rest)).t = nrm m ∧ (allP (prL m rs y ++ rest)).rs = rs ∧ (allP (prL m rs y ++ rest)).y = y := by
  obtain ⟨e1, e2⟩ := may_ends h
  obtain ⟨p1, p2, p3, p4, p5⟩ := may_parts h
  obtain ⟨q1, q2, q3⟩ := sameM_iff.1 p5
  have hH := head_comp hN.uk e1 e2 (fieldsL (lets m.k) m rs y ++ rest)
  have eL : prL m rs y ++ rest = ((putL 1 m.k ++ putL 1 (whoN m.fr)) ++ putL 1 (whoN m.to)) ++ (fieldsL (lets m.k) m rs y ++ rest) := by unfold prL; simp only [List.append_assoc]
  rw [eL]
  unfold allP
  rw [hH]
  simp only
  have hct : (109 : UInt8) ∈ lets m.k → 0 ≤ m.ct ∧ m.ct < 256 := by
    intro hm
    rcases kinds p1 with hk | hk | hk | hk | hk | hk | hk | hk | hk | hk | hk | hk | hk | hk | hk
    all_goals first
      | (have := may_ct h hk; omega)
      | (rw [hk] at hm; exact absurd hm (by decide))
  obtain ⟨b1, b2, b3, b4⟩ := flds_comp (rs := rs) (n := n) hN hyn (lets m.k) hct (fun c hc => (lets_all m.k c hc).2) p4 ((putL 1 m.k ++ putL 1 (whoN m.fr)) ++ putL 1 (whoN m.to)) rest ⟨⟨_, 0⟩, { mg0 with k := m.k, fr := m.fr, to := m.to }, [], []⟩ rfl
  refine ⟨b1, ?_, ?_, ?_⟩
  · refine b2.trans ?_
    have q : nrm (keepL (lets m.k) (bare0 m) m) = nrm m := q1
    refine Eq.trans ?_ q
    exact nrm_keepL rfl _ rfl
  · rw [b3, ← q2]
    rcases kinds p1 with hk | hk | hk | hk | hk | hk | hk | hk | hk | hk | hk | hk | hk | hk | hk
    · unfold bareR; rw [hk, show lets ((1 : Int)) = [115, 111] by decide +kernel]; simp [rsF, rsC]
    · unfold bareR; rw [hk, show lets ((2 : Int)) = [115, 114] by decide +kernel]; simp [rsF, rsC]
    · unfold bareR; rw [hk, show lets ((3 : Int)) = [98, 105] by decide +kernel]; simp [rsF, rsC]
    · unfold bareR; rw [hk, show lets ((4 : Int)) = [98, 122, 99, 108] by decide +kernel]; simp [rsF, rsC]
    · unfold bareR; rw [hk, show lets ((5 : Int)) = [98] by decide +kernel]; simp [rsF, rsC]
    · unfold bareR; rw [hk, show lets ((6 : Int)) = [98, 105, 99, 101] by decide +kernel]; simp [rsF, rsC]
    · unfold bareR; rw [hk, show lets ((7 : Int)) = [98, 105] by decide +kernel]; simp [rsF, rsC]
    · unfold bareR; rw [hk, show lets ((8 : Int)) = [98, 99, 110] by decide +kernel]; simp [rsF, rsC]
    · unfold bareR; rw [hk, show lets ((9 : Int)) = [98, 110] by decide +kernel]; simp [rsF, rsC]
    · unfold bareR; rw [hk, show lets ((10 : Int)) = [105] by decide +kernel]; simp [rsF, rsC]
    · unfold bareR; rw [hk, show lets ((11 : Int)) = [98, 105, 101] by decide +kernel]; simp [rsF, rsC]
    · unfold bareR; rw [hk, show lets ((12 : Int)) = [122, 107] by decide +kernel]; simp [rsF, rsC]
    · unfold bareR; rw [hk, show lets ((13 : Int)) = [122, 107, 109, 121] by decide +kernel]; simp [rsF, rsC]
    · unfold bareR; rw [hk, show lets ((14 : Int)) = [105] by decide +kernel]; simp [rsF, rsC]
    · unfold bareR; rw [hk, show lets ((15 : Int)) = [122, 107] by decide +kernel]; simp [rsF, rsC]
  · rw [b4, ← q3]
    rcases kinds p1 with hk | hk | hk | hk | hk | hk | hk | hk | hk | hk | hk | hk | hk | hk | hk
    · unfold bareY; rw [hk, show lets ((1 : Int)) = [115, 111] by decide +kernel]; simp [yF, yC]
    · unfold bareY; rw [hk, show lets ((2 : Int)) = [115, 114] by decide +kernel]; simp [yF, yC]
    · unfold bareY; rw [hk, show lets ((3 : Int)) = [98, 105] by decide +kernel]; simp [yF, yC]
    · unfold bareY; rw [hk, show lets ((4 : Int)) = [98, 122, 99, 108] by decide +kernel]; simp [yF, yC]
    · unfold bareY; rw [hk, show lets ((5 : Int)) = [98] by decide +kernel]; simp [yF, yC]
    · unfold bareY; rw [hk, show lets ((6 : Int)) = [98, 105, 99, 101] by decide +kernel]; simp [yF, yC]
    · unfold bareY; rw [hk, show lets ((7 : Int)) = [98, 105] by decide +kernel]; simp [yF, yC]
    · unfold bareY; rw [hk, show lets ((8 : Int)) = [98, 99, 110] by decide +kernel]; simp [yF, yC]
    · unfold bareY; rw [hk, show lets ((9 : Int)) = [98, 110] by decide +kernel]; simp [yF, yC]
    · unfold bareY; rw [hk, show lets ((10 : Int)) = [105] by decide +kernel]; simp [yF, yC]
    · unfold bareY; rw [hk, show lets ((11 : Int)) = [98, 105, 101] by decide +kernel]; simp [yF, yC]
    · unfold bareY; rw [hk, show lets ((12 : Int)) = [122, 107] by decide +kernel]; simp [yF, yC]
    · unfold bareY; rw [hk, show lets ((13 : Int)) = [122, 107, 109, 121] by decide +kernel]; simp [yF, yC]
    · unfold bareY; rw [hk, show lets ((14 : Int)) = [105] by decide +kernel]; simp [yF, yC]
    · unfold bareY; rw [hk, show lets ((15 : Int)) = [122, 107] by decide +kernel]; simp [yF, yC]
/-- what is found, as a message; is it one? -/
def paM (l : List UInt8) : Mg := { (allP l).t with yn := (allP l).y.length }
def paOk (l : List UInt8) (n : Int) : Bool := ((allP l).s.e == 0) && (!decide ((allP l).s.at_ < l.length) && mayM (paM l) (allP l).rs (allP l).y n)
theorem nrm_paM (l : List UInt8) : nrm (paM l) = nrm (allP l).t := rfl
theorem paM_yn (l : List UInt8) : (paM l).yn = (allP l).y.length := rfl
theorem pa_sound {l : List UInt8} {n : Int} (h : paOk l n = true) : mayM (paM l) (allP l).rs (allP l).y n = true ∧ prL (paM l) (allP l).rs (allP l).y = l := by
  simp only [paOk, Bool.and_eq_true, beq_iff_eq, Bool.not_eq_true', decide_eq_false_iff_not] at h
  obtain ⟨h1, h2, h3⟩ := h
  refine ⟨h3, ?_⟩
  obtain ⟨M, m1, m2, m3⟩ := all_sound h1
  rw [prL_congr (nrm_paM l), m3]
  rw [m1] at h2
  simp only at h2
  exact List.take_of_length_le (by omega)
theorem pa_comp {m : Mg} {rs : List Rp} {y : List UInt8} {n : Int} (hN : MgN m) (hyn : m.yn = y.length) (h : mayM m rs y n = true) :
    paOk (prL m rs y) n = true ∧ nrm (paM (prL m rs y)) = nrm m ∧ (allP (prL m rs y)).rs = rs ∧ (allP (prL m rs y)).y = y := by
  have hc := all_comp hN hyn h []
  rw [List.append_nil] at hc
  obtain ⟨c1, c2, c3, c4⟩ := hc
  have d2 := (nrm_paM (prL m rs y)).trans c2
  have d3 : (paM (prL m rs y)).yn = m.yn := by rw [paM_yn, c4, hyn]
  refine ⟨?_, d2, c3, c4⟩
  unfold paOk
  rw [c3, c4, mayM_congr d2 d3, h, c1]
  simp
end Go.Proofs.YtajgikjmoeemnaaDoor
