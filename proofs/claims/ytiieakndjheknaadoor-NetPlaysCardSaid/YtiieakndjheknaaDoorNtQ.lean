/-
  PLAIN: messages that are the same but for where their lists lie; what one that may be has. No program in sight.
-/
import Derived.Test.YtiieakndjheknaaDoorNtP
namespace Go.Proofs.YtiieakndjheknaaDoor
set_option maxRecDepth 100000
set_option linter.unusedVariables false
set_option linter.unusedSimpArgs false
theorem nrm_keepM1 (c : Nat) (t m : Mg) : nrm (keepM c t m) = nrm (keepM c (nrm t) (nrm m)) := by
  unfold keepM
  by_cases h115 : c = 115
  · simp only [h115, ↓reduceIte, Nat.reduceEqDiff]; rfl
  simp only [if_neg h115]
  by_cases h111 : c = 111
  · simp only [h111, ↓reduceIte, Nat.reduceEqDiff]; rfl
  simp only [if_neg h111]
  by_cases h114 : c = 114
  · simp only [h114, ↓reduceIte, Nat.reduceEqDiff]; rfl
  simp only [if_neg h114]
  by_cases h98 : c = 98
  · simp only [h98, ↓reduceIte, Nat.reduceEqDiff]; rfl
  simp only [if_neg h98]
  by_cases h105 : c = 105
  · simp only [h105, ↓reduceIte, Nat.reduceEqDiff]; rfl
  simp only [if_neg h105]
  by_cases h122 : c = 122
  · simp only [h122, ↓reduceIte, Nat.reduceEqDiff]; rfl
  simp only [if_neg h122]
  by_cases h99 : c = 99
  · simp only [h99, ↓reduceIte, Nat.reduceEqDiff]; rfl
  simp only [if_neg h99]
  by_cases h110 : c = 110
  · simp only [h110, ↓reduceIte, Nat.reduceEqDiff]; rfl
  simp only [if_neg h110]
  by_cases h101 : c = 101
  · simp only [h101, ↓reduceIte, Nat.reduceEqDiff]; rfl
  simp only [if_neg h101]
  by_cases h108 : c = 108
  · simp only [h108, ↓reduceIte, Nat.reduceEqDiff]; rfl
  simp only [if_neg h108]
  by_cases h107 : c = 107
  · simp only [h107, ↓reduceIte, Nat.reduceEqDiff]; rfl
  simp only [if_neg h107]
  by_cases h109 : c = 109
  · simp only [h109, ↓reduceIte, Nat.reduceEqDiff]; rfl
  simp only [if_neg h109]
  rfl
theorem nrm_keepM {c : Nat} {t t' m m' : Mg} (h : nrm t = nrm t') (g : nrm m = nrm m') : nrm (keepM c t m) = nrm (keepM c t' m') := by
  rw [nrm_keepM1 c t m, nrm_keepM1 c t' m', h, g]
theorem nrm_keepL {m m' : Mg} (g : nrm m = nrm m') : ∀ (fs : List UInt8) {t t' : Mg}, nrm t = nrm t' → nrm (keepL fs t m) = nrm (keepL fs t' m')
  | [], t, t', h => h
  | c :: fs, t, t', h => nrm_keepL g fs (nrm_keepM h g)
theorem bool_iff {a b : Bool} (h : a = true ↔ b = true) : a = b := by cases a <;> cases b <;> simp_all
theorem sameM_congr {a a' b b' : Mg} (h : nrm a = nrm a') (g : nrm b = nrm b') (ra : List Rp) (la : List UInt8) (rb : List Rp) (lb : List UInt8) : sameM a ra la b rb lb = sameM a' ra la b' rb lb :=
  bool_iff (by rw [sameM_iff, sameM_iff, h, g])
theorem keepB_congr {m m' : Mg} (g : nrm m = nrm m') (hy : m.yn = m'.yn) (c : Nat) (rs : List Rp) (n : Int) : keepB c m rs n = keepB c m' rs n := by
  have e : ∀ m : Mg, keepB c m rs n = keepB c { nrm m with yn := m.yn } rs n := fun m => rfl
  rw [e m, e m', g, hy]
theorem endsB_congr {m m' : Mg} (g : nrm m = nrm m') (n : Int) : endsB m n = endsB m' n := by
  have e : ∀ m : Mg, endsB m n = endsB (nrm m) n := fun m => rfl
  rw [e m, e m', g]
theorem mayM_congr {m m' : Mg} (g : nrm m = nrm m') (hy : m.yn = m'.yn) (rs : List Rp) (l : List UInt8) (n : Int) : mayM m rs l n = mayM m' rs l n := by
  have hk : m.k = m'.k := (show (nrm m).k = (nrm m').k from by rw [g])
  have h0 : nrm (bare0 m) = nrm (bare0 m') := by
    have e : ∀ m : Mg, nrm (bare0 m) = nrm (bare0 (nrm m)) := fun m => rfl
    rw [e m, e m', g]
  have hb : nrm (bareM m) = nrm (bareM m') := by
    unfold bareM
    rw [hk]
    exact nrm_keepL g _ h0
  have hr : bareR m rs = bareR m' rs := by unfold bareR; rw [hk]
  have hl : bareY m l = bareY m' l := by unfold bareY; rw [hk]
  unfold mayM
  rw [hk, endsB_congr g n, sameM_congr hb g, hr, hl]
  congr 1
  congr 1
  congr 1
  congr 1
  exact congrArg (fun p => (lets m'.k).all p) (funext fun c => keepB_congr g hy c.toNat rs n)
theorem mayX_cx {m : Mg} {rs : List Rp} {l : List UInt8} (h : OkX ⟨m, rs, l⟩) (n : Int) : mayM (cx ⟨m, rs, l⟩).m rs l n = mayM m rs l n :=
  mayM_congr (m := (cx ⟨m, rs, l⟩).m) (m' := m) rfl h.2.1.symm rs l n
theorem sameX {x y : MX} : sameM x.m x.rs x.l y.m y.rs y.l = true ↔ cx x = cx y := by
  obtain ⟨m, rs, l⟩ := x
  obtain ⟨m', rs', l'⟩ := y
  rw [sameM_iff]
  constructor
  · rintro ⟨h1, rfl, rfl⟩
    obtain ⟨⟩ := m
    obtain ⟨⟩ := m'
    simp only [nrm, Mg.mk.injEq] at h1
    simp only [cx, cpM, MX.mk.injEq, Mg.mk.injEq, and_true, true_and]
    simp_all
  · intro h
    have h0 := congrArg MX.m h
    have h1 := congrArg MX.rs h
    have h2 := congrArg MX.l h
    have h3 : nrm (cx ⟨m, rs, l⟩).m = nrm (cx ⟨m', rs', l'⟩).m := congrArg nrm h0
    exact ⟨h3, h1, h2⟩
end Go.Proofs.YtiieakndjheknaaDoor
