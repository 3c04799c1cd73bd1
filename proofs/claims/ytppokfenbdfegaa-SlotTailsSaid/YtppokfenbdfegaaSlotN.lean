/-
  THE PLAIN LAW OF SlotTails: what a slot is behind each put. No program in sight.
-/
import Derived.Test.YtppokfenbdfegaaSlotM
namespace Go.Proofs.Ytppokfenbdfegaa
open Go.RowKit
set_option linter.unusedVariables false
set_option linter.unusedSimpArgs false

/-- a good frame of the index -/
def Gd (f : SCp) (i cur : Int) : Prop := f.st = 1 ∧ f.ix = i ∧ f.p = 1 ∧ 2 ≤ f.r ∧ f.r ≤ cur
def Fr (f : SCp) (i cur : Int) : Prop := (f.st = 0 ∨ f.st = 2 ∨ f.st = 1 ∧ f.ix = i - 24) ∨ Gd f i cur
def Inv (x : SPair) (cur ar ap : Int) : Prop :=
  Fr x.f0 x.i cur ∧ Fr x.f1 x.i cur ∧
  ((x.p.st = 0 ∧ x.p.wh = 0 ∧ ar = 0 ∧ ap = 0) ∨ (x.p.st = 1 ∧ x.p.ix = x.i - 24 ∧ x.p.wh = 1 ∧ ar = 0 ∧ ap = 0) ∨
   (x.p.st = 1 ∧ x.p.ix = x.i ∧ (x.p.wh = 0 ∨ x.p.wh = 1) ∧ x.p.r = ar ∧ x.p.p = 1 ∧ ap = 1 ∧ 2 ≤ ar ∧ ar ≤ cur ∧ ((Gd x.f0 x.i cur ∧ ar ≤ x.f0.r) ∨ (Gd x.f1 x.i cur ∧ ar ≤ x.f1.r))))
theorem of_good {f : SCp} {i cur : Int} (h : Gd f i cur) : ofB f i = true := by
  obtain ⟨h1, h2, _⟩ := h
  simp [ofB, h1, h2]
theorem of_not {f : SCp} {i cur : Int} (h : f.st = 0 ∨ f.st = 2 ∨ f.st = 1 ∧ f.ix = i - 24) : ofB f i = false := by
  unfold ofB
  rcases h with h | h | ⟨h1, h2⟩
  · rw [h]; rfl
  · rw [h]; rfl
  · have : (f.ix == i) = false := by rw [beq_eq_false_iff_ne]; omega
    rw [this, Bool.and_false]
theorem gt_not {f : SCp} {i cur : Int} (h : Fr f i cur) : gtB f i = false := by
  unfold gtB
  rcases h with (h | h | ⟨h1, h2⟩) | ⟨h1, h2, _⟩
  · rw [h]; rfl
  · rw [h]; rfl
  · rw [decide_eq_false (by omega), Bool.and_false]
  · rw [decide_eq_false (by omega), Bool.and_false]
theorem less_one (r p r' p' : Int) (hp : p = 1) (hp' : p' = 1) : lessB r p r' p' = decide (r < r') := by
  subst hp hp'
  simp [lessB]
theorem less_min (r p : Int) (hr : 2 ≤ r) : lessB r p (-9223372036854775808) (-9223372036854775808) = false := by
  simp [lessB]
  constructor <;> omega
/-- what it is intact by -/
def Chr (x : SPair) (cur ar ap : Int) : Prop :=
  (intI x = -1 ∧ ¬ Gd x.f0 x.i cur ∧ ¬ Gd x.f1 x.i cur ∧ ar = 0 ∧ ap = 0 ∧ (clsI x = 0 ∨ clsI x = 1)) ∨
  (intI x = 0 ∧ Gd x.f0 x.i cur ∧ ar ≤ x.f0.r ∧ (Gd x.f1 x.i cur → ar ≤ x.f1.r → x.f1.r ≤ x.f0.r)) ∨
  (intI x = 1 ∧ Gd x.f1 x.i cur ∧ ar ≤ x.f1.r ∧ (Gd x.f0 x.i cur → ar ≤ x.f0.r → x.f0.r ≤ x.f1.r))
theorem best_chr (f g : SCp) (i cur ar lr lp a b : Int) (ha : a ≠ -1) (hb : b ≠ -1) (hf : Fr f i cur) (hg : Fr g i cur)
    (cf : Gd f i cur → candB f i lr lp = decide (ar ≤ f.r)) (cg : Gd g i cur → candB g i lr lp = decide (ar ≤ g.r)) :
    (bestOf f g i lr lp a b = -1 ∧ (¬ Gd f i cur ∨ ¬ ar ≤ f.r) ∧ (¬ Gd g i cur ∨ ¬ ar ≤ g.r)) ∨
    (bestOf f g i lr lp a b = a ∧ Gd f i cur ∧ ar ≤ f.r ∧ (Gd g i cur → ar ≤ g.r → g.r ≤ f.r)) ∨
    (bestOf f g i lr lp a b = b ∧ Gd g i cur ∧ ar ≤ g.r ∧ (Gd f i cur → ar ≤ f.r → f.r ≤ g.r)) := by
  have nf : ¬ Gd f i cur → candB f i lr lp = false := fun h => by
    rcases hf with h1 | h1
    · simp [candB, of_not (cur := cur) h1]
    · exact absurd h1 h
  have ng : ¬ Gd g i cur → candB g i lr lp = false := fun h => by
    rcases hg with h1 | h1
    · simp [candB, of_not (cur := cur) h1]
    · exact absurd h1 h
  by_cases gf : Gd f i cur <;> by_cases gg : Gd g i cur
  · have e1 := cf gf
    have e2 := cg gg
    have e3 := less_one f.r f.p g.r g.p gf.2.2.1 gg.2.2.1
    by_cases h1 : ar ≤ f.r <;> by_cases h2 : ar ≤ g.r
    · by_cases h3 : f.r < g.r
      · right; right
        refine ⟨by simp [bestOf, e1, e2, e3, h1, h2, h3], gg, h2, fun _ _ => by omega⟩
      · right; left
        refine ⟨by simp [bestOf, e1, e2, e3, h1, h2, h3], gf, h1, fun _ _ => by omega⟩
    · right; left
      refine ⟨by simp [bestOf, e1, e2, e3, h1, h2], gf, h1, fun _ h => absurd h h2⟩
    · right; right
      refine ⟨by simp [bestOf, e1, e2, e3, h1, h2], gg, h2, fun _ h => absurd h h1⟩
    · left
      exact ⟨by simp [bestOf, e1, e2, h1, h2], .inr h1, .inr h2⟩
  · have e1 := cf gf
    have e2 := ng gg
    by_cases h1 : ar ≤ f.r
    · right; left
      exact ⟨by simp [bestOf, e1, e2, h1], gf, h1, fun h => absurd h gg⟩
    · left
      exact ⟨by simp [bestOf, e1, e2, h1], .inr h1, .inl gg⟩
  · have e1 := nf gf
    have e2 := cg gg
    by_cases h2 : ar ≤ g.r
    · right; right
      exact ⟨by simp [bestOf, e1, e2, h2], gg, h2, fun h => absurd h gf⟩
    · left
      exact ⟨by simp [bestOf, e1, e2, h2], .inl gf, .inr h2⟩
  · left
    exact ⟨by simp [bestOf, nf gf, ng gg], .inl gf, .inl gg⟩
theorem cand_ack {f : SCp} {i cur ar lp : Int} (hl : lp = 1) (h : Gd f i cur) : candB f i ar lp = decide (ar ≤ f.r) := by
  unfold candB
  rw [of_good h, less_one _ _ _ _ h.2.2.1 hl, Bool.true_and]
  by_cases h1 : f.r < ar
  · rw [decide_eq_true h1, decide_eq_false (by omega)]; rfl
  · rw [decide_eq_false h1, decide_eq_true (by omega)]; rfl
theorem cand_min {f : SCp} {i cur : Int} (h : Gd f i cur) : candB f i (-9223372036854775808) (-9223372036854775808) = decide (0 ≤ f.r) := by
  unfold candB
  rw [of_good h, less_min _ _ h.2.2.2.1, decide_eq_true (by have := h.2.2.2.1; omega)]
  rfl
theorem bey_not {x : SPair} {cur ar ap : Int} (h : Inv x cur ar ap) : beyB x = false := by
  obtain ⟨h0, h1, hp⟩ := h
  unfold beyB
  rw [gt_not h0, gt_not h1]
  rcases hp with ⟨h, _⟩ | ⟨h, h2, _⟩ | ⟨h, h2, _⟩
  · rw [h]; rfl
  · rw [decide_eq_false (show ¬ x.i < x.p.ix by omega), Bool.and_false]; rfl
  · rw [decide_eq_false (show ¬ x.i < x.p.ix by omega), Bool.and_false]; rfl
theorem inv_chr {x : SPair} {cur ar ap : Int} (h : Inv x cur ar ap) : Chr x cur ar ap := by
  have hb := bey_not h
  obtain ⟨h0, h1, hp⟩ := h
  have hcls : intI x = -1 → x.p.st ≠ 2 → ((x.p.st == 1) && (x.p.ix == x.i)) = false → (clsI x = 0 ∨ clsI x = 1) := fun hi hs hn => by
    unfold clsI
    rw [hi, if_neg (by omega), hn, hb]
    have : (x.p.st != 2) = true := by simpa using hs
    rw [this]
    cases badB x <;> simp
  have fresh : x.p.st ≠ 2 → ((x.p.st == 1) && (x.p.ix == x.i)) = false → ar = 0 → ap = 0 → Chr x cur ar ap := fun hs hn ha hap => by
    have hi : intI x = bestOf x.f0 x.f1 x.i (-9223372036854775808) (-9223372036854775808) 0 1 := by
      unfold intI
      have : (x.p.st == 2) = false := by simpa using hs
      rw [hn, hb, this]
      rfl
    have hc := best_chr x.f0 x.f1 x.i cur 0 (-9223372036854775808) (-9223372036854775808) 0 1 (by decide) (by decide) h0 h1 cand_min cand_min
    rw [← hi] at hc
    subst ha hap
    rcases hc with ⟨e, a, b⟩ | ⟨e, a, b, c⟩ | ⟨e, a, b, c⟩
    · refine .inl ⟨e, ?_, ?_, rfl, rfl, hcls e hs hn⟩
      · intro g; rcases a with a | a
        · exact a g
        · have := g.2.2.2.1; omega
      · intro g; rcases b with a | a
        · exact a g
        · have := g.2.2.2.1; omega
    · exact .inr (.inl ⟨e, a, b, c⟩)
    · exact .inr (.inr ⟨e, a, b, c⟩)
  rcases hp with ⟨hs, _, ha, hap⟩ | ⟨hs, hx, _, ha, hap⟩ | ⟨hs, hx, hw, hr, hq, hap, ha2, hac, hex⟩
  · exact fresh (by omega) (by rw [hs]; rfl) ha hap
  · refine fresh (by omega) ?_ ha hap
    have : (x.p.ix == x.i) = false := by rw [beq_eq_false_iff_ne]; omega
    rw [this, Bool.and_false]
  · have hn : ((x.p.st == 1) && (x.p.ix == x.i)) = true := by simp [hs, hx]
    rcases hw with hw | hw
    · have hi : intI x = bestOf x.f0 x.f1 x.i x.p.r x.p.p 0 1 := by
        unfold intI
        rw [hn, if_pos rfl, if_pos hw]
      have hc := best_chr x.f0 x.f1 x.i cur ar x.p.r x.p.p 0 1 (by decide) (by decide) h0 h1 (by rw [hr]; exact cand_ack hq) (by rw [hr]; exact cand_ack hq)
      rw [← hi] at hc
      rcases hc with ⟨e, a, b⟩ | ⟨e, a, b, c⟩ | ⟨e, a, b, c⟩
      · exfalso
        rcases hex with ⟨g, l⟩ | ⟨g, l⟩
        · rcases a with a | a
          · exact a g
          · exact a l
        · rcases b with a | a
          · exact a g
          · exact a l
      · exact .inr (.inl ⟨e, a, b, c⟩)
      · exact .inr (.inr ⟨e, a, b, c⟩)
    · have hi : intI x = bestOf x.f1 x.f0 x.i x.p.r x.p.p 1 0 := by
        unfold intI
        rw [hn, if_pos rfl, if_neg (by omega)]
      have hc := best_chr x.f1 x.f0 x.i cur ar x.p.r x.p.p 1 0 (by decide) (by decide) h1 h0 (by rw [hr]; exact cand_ack hq) (by rw [hr]; exact cand_ack hq)
      rw [← hi] at hc
      rcases hc with ⟨e, a, b⟩ | ⟨e, a, b, c⟩ | ⟨e, a, b, c⟩
      · exfalso
        rcases hex with ⟨g, l⟩ | ⟨g, l⟩
        · rcases b with a | a
          · exact a g
          · exact a l
        · rcases a with a | a
          · exact a g
          · exact a l
      · exact .inr (.inr ⟨e, a, b, c⟩)
      · exact .inr (.inl ⟨e, a, b, c⟩)
def nextS (x : SPair) (m : Nat) (b : Int) : SPair :=
  if nextI x = 0 then ⟨tailP x.p x.i b 1 0 m, tailC x.i b 1 m x.f0, x.f1, x.i⟩ else ⟨tailP x.p x.i b 1 1 m, x.f0, tailC x.i b 1 m x.f1, x.i⟩
def ackR (m : Nat) (b ar : Int) : Int := if m = 3 then b else ar
def ackP (m : Nat) (ap : Int) : Int := if m = 3 then 1 else ap
theorem fr_mono {f : SCp} {i cur b : Int} (h : Fr f i cur) (hb : cur ≤ b) : Fr f i b := by
  rcases h with h | ⟨h1, h2, h3, h4, h5⟩
  · exact .inl h
  · exact .inr ⟨h1, h2, h3, h4, by omega⟩
theorem gd_mono {f : SCp} {i cur b : Int} (h : Gd f i cur) (hb : cur ≤ b) : Gd f i b := ⟨h.1, h.2.1, h.2.2.1, h.2.2.2.1, by have := h.2.2.2.2; omega⟩
theorem gd_new (i b : Int) (hb : 2 ≤ b) (m : Nat) (f : SCp) (hm : 2 ≤ m) : Gd (tailC i b 1 m f) i b := by
  unfold tailC
  rw [if_neg (by omega), if_neg (by omega)]
  exact ⟨rfl, rfl, rfl, hb, Int.le_refl _⟩
theorem fr_tail {f : SCp} {i cur b : Int} (h : Fr f i cur) (hb : cur ≤ b) (h2 : 2 ≤ b) (m : Nat) : Fr (tailC i b 1 m f) i b := by
  by_cases hm : 2 ≤ m
  · exact .inr (gd_new i b h2 m f hm)
  unfold tailC
  split
  · exact fr_mono h hb
  · rw [if_pos (by omega)]
    exact .inl (.inr (.inl rfl))
theorem chr_next {x : SPair} {cur ar ap : Int} (h : Inv x cur ar ap) : nextI x = if intI x = 0 then 1 else 0 := by
  have c := inv_chr h
  unfold nextI
  rcases c with ⟨e, _, _, ha, _⟩ | ⟨e, _⟩ | ⟨e, _⟩
  · rw [e, if_neg (by decide)]
    rcases h.2.2 with ⟨hs, _⟩ | ⟨hs, _, hw, _⟩ | ⟨_, _, _, _, _, _, h2, _⟩
    · rw [hs]; rfl
    · rw [hs, hw]; rfl
    · omega
  · rw [e]; rfl
  · rw [e]; rfl
theorem inv_next {x : SPair} {cur ar ap b : Int} (h : Inv x cur ar ap) (hb : cur ≤ b) (h2 : 2 ≤ b) (m : Nat) (hm : m < 4) : Inv (nextS x m b) b (ackR m b ar) (ackP m ap) := by
  have c := inv_chr h
  have hn := chr_next h
  obtain ⟨h0, h1, hp⟩ := h
  unfold nextS
  by_cases hK : intI x = 0
  · rw [hK, if_pos rfl] at hn
    rw [hn, if_neg (by decide)]
    have hg : Gd x.f0 x.i cur ∧ ar ≤ x.f0.r := by
      rcases c with ⟨e, _⟩ | ⟨_, a, b, _⟩ | ⟨e, _⟩
      · omega
      · exact ⟨a, b⟩
      · omega
    refine ⟨fr_mono h0 hb, fr_tail h1 hb h2 m, ?_⟩
    by_cases h3 : m = 3
    · subst h3
      right; right
      exact ⟨rfl, rfl, .inr rfl, rfl, rfl, rfl, h2, Int.le_refl _, .inr ⟨gd_new _ _ h2 _ _ (by decide), Int.le_refl _⟩⟩
    · simp only [tailP, ackR, ackP, if_neg h3]
      rcases hp with hp | hp | ⟨a1, a2, a3, a4, a5, a6, a7, a8, _⟩
      · exact .inl hp
      · exact .inr (.inl hp)
      · exact .inr (.inr ⟨a1, a2, a3, a4, a5, a6, a7, by omega, .inl ⟨gd_mono hg.1 hb, hg.2⟩⟩)
  · rw [if_neg hK] at hn
    rw [hn, if_pos rfl]
    refine ⟨fr_tail h0 hb h2 m, fr_mono h1 hb, ?_⟩
    by_cases h3 : m = 3
    · subst h3
      right; right
      exact ⟨rfl, rfl, .inl rfl, rfl, rfl, rfl, h2, Int.le_refl _, .inl ⟨gd_new _ _ h2 _ _ (by decide), Int.le_refl _⟩⟩
    · simp only [tailP, ackR, ackP, if_neg h3]
      rcases hp with hp | hp | ⟨a1, a2, a3, a4, a5, a6, a7, a8, _⟩
      · exact .inl hp
      · exact .inr (.inl hp)
      · refine .inr (.inr ⟨a1, a2, a3, a4, a5, a6, a7, by omega, ?_⟩)
        rcases c with ⟨_, _, _, e, _⟩ | ⟨e, _⟩ | ⟨_, a, b, _⟩
        · omega
        · exact absurd e hK
        · exact .inr ⟨gd_mono a hb, b⟩
theorem cls_0 {x : SPair} (h : intI x = 0) : clsI x = 3 ∧ (repR x).st = 2 ∧ (repR x).r = x.f0.r ∧ (repR x).p = x.f0.p := by
  unfold clsI repR
  rw [h]
  exact ⟨rfl, rfl, rfl, rfl⟩
theorem cls_1 {x : SPair} (h : intI x = 1) : clsI x = 3 ∧ (repR x).st = 2 ∧ (repR x).r = x.f1.r ∧ (repR x).p = x.f1.p := by
  unfold clsI repR
  rw [h]
  exact ⟨rfl, rfl, rfl, rfl⟩
/-- a round -/
theorem round_ok {x : SPair} {cur ar ap b : Int} (h : Inv x cur ar ap) (hb : cur ≤ b) (h2 : 2 ≤ b) (m : Nat) (hm : m < 4) :
    (clsI (nextS x m b) = 3 ∧ 0 ≤ intI (nextS x m b) ∧ (repR (nextS x m b)).st = 2 ∧ leastB (repR (nextS x m b)).r (repR (nextS x m b)).p (ackR m b ar) (ackP m ap) = true ∧
      (((repR (nextS x m b)).r = b ∧ (repR (nextS x m b)).p = 1) ∨ (clsI x = 3 ∧ (repR (nextS x m b)).r = (repR x).r ∧ (repR (nextS x m b)).p = (repR x).p))) ∨
    ((clsI (nextS x m b) = 0 ∨ clsI (nextS x m b) = 1) ∧ ackR m b ar = 0 ∧ ackP m ap = 0 ∧ clsI x ≠ 3) := by
  have c := inv_chr h
  have hn := chr_next h
  have h' := inv_next h hb h2 m hm
  have c' := inv_chr h'
  have hap : ackP m ap = 0 ∨ ackP m ap = 1 := by
    rcases h'.2.2 with ⟨_, _, _, e⟩ | ⟨_, _, _, _, e⟩ | ⟨_, _, _, _, _, e, _⟩
    · exact .inl e
    · exact .inl e
    · exact .inr e
  have hst : ∀ r : Int, ackR m b ar ≤ r → leastB r 1 (ackR m b ar) (ackP m ap) = true := fun r hr => by
    unfold leastB
    by_cases e : ackR m b ar < r
    · simp [e]
    · have : r = ackR m b ar := by omega
      have h1 : ackP m ap ≤ 1 := by omega
      simp [this, h1]
  rcases c' with ⟨e', g0', g1', a', ap', hc'⟩ | ⟨e', g', l', o'⟩ | ⟨e', g', l', o'⟩
  · right
    refine ⟨hc', a', ap', ?_⟩
    rcases c with ⟨e, _, _, _, _, hc⟩ | ⟨e, g, _⟩ | ⟨e, g, _⟩
    · omega
    · exfalso
      rw [e, if_pos rfl] at hn
      apply g0'
      unfold nextS
      rw [hn]
      exact gd_mono g hb
    · exfalso
      rw [e, if_neg (by decide)] at hn
      apply g1'
      unfold nextS
      rw [hn]
      exact gd_mono g hb
  · left
    obtain ⟨k1, k2, k3, k4⟩ := cls_0 e'
    refine ⟨k1, by omega, k2, by rw [k3, k4, g'.2.2.1]; exact hst _ l', ?_⟩
    rw [k3, k4, g'.2.2.1]
    by_cases hK : intI x = 0
    · rw [hK, if_pos rfl] at hn
      have hx : (nextS x m b).f0 = x.f0 := by unfold nextS; rw [hn]; rfl
      obtain ⟨q1, q2, q3, q4⟩ := cls_0 hK
      have hg : Gd x.f0 x.i cur := by
        rcases c with ⟨e, _⟩ | ⟨_, a, _⟩ | ⟨e, _⟩
        · omega
        · exact a
        · omega
      right
      rw [hx]
      exact ⟨q1, q3.symm, by rw [q4, hg.2.2.1]⟩
    · rw [if_neg hK] at hn
      have hx : (nextS x m b).f0 = tailC x.i b 1 m x.f0 := by unfold nextS; rw [hn]; rfl
      have hi : (nextS x m b).i = x.i := by unfold nextS; rw [hn]; rfl
      by_cases h20 : 2 ≤ m
      · left
        rw [hx]
        unfold tailC
        rw [if_neg (by omega), if_neg (by omega)]
        exact ⟨rfl, rfl⟩
      · exfalso
        rw [hx, hi] at g'
        unfold tailC at g'
        by_cases hm0 : m = 0
        · rw [if_pos hm0] at g'
          subst hm0
          have hf1 : (nextS x 0 b).f1 = x.f1 := by unfold nextS; rw [hn]; rfl
          rcases c with ⟨_, g, _⟩ | ⟨e, _⟩ | ⟨e, g1, l1, o1⟩
          · rcases h.1 with q | q
            · rcases q with q | q | ⟨q, q2⟩ <;> obtain ⟨w1, w2, _⟩ := g' <;> omega
            · exact g q
          · exact hK e
          · have hxx : nextS x 0 b = x := by
              unfold nextS
              rw [hn]
              obtain ⟨p, f0, f1, i⟩ := x
              rfl
            rw [hxx] at e'
            omega
        · rw [if_neg hm0, if_pos (by omega)] at g'
          obtain ⟨w1, _⟩ := g'
          cases w1
  · left
    obtain ⟨k1, k2, k3, k4⟩ := cls_1 e'
    refine ⟨k1, by omega, k2, by rw [k3, k4, g'.2.2.1]; exact hst _ l', ?_⟩
    rw [k3, k4, g'.2.2.1]
    by_cases hK : intI x = 0
    · rw [hK, if_pos rfl] at hn
      have hx : (nextS x m b).f1 = tailC x.i b 1 m x.f1 := by unfold nextS; rw [hn]; rfl
      have hi : (nextS x m b).i = x.i := by unfold nextS; rw [hn]; rfl
      by_cases h20 : 2 ≤ m
      · left
        rw [hx]
        unfold tailC
        rw [if_neg (by omega), if_neg (by omega)]
        exact ⟨rfl, rfl⟩
      · exfalso
        by_cases hm0 : m = 0
        · subst hm0
          have hxx : nextS x 0 b = x := by
            unfold nextS
            rw [hn]
            obtain ⟨p, f0, f1, i⟩ := x
            rfl
          rw [hxx] at e'
          omega
        · rw [hx, hi] at g'
          unfold tailC at g'
          rw [if_neg hm0, if_pos (by omega)] at g'
          obtain ⟨w1, _⟩ := g'
          cases w1
    · rw [if_neg hK] at hn
      have hx : (nextS x m b).f1 = x.f1 := by unfold nextS; rw [hn]; rfl
      have hi : (nextS x m b).i = x.i := by unfold nextS; rw [hn]; rfl
      rcases c with ⟨e, _, ng1, _⟩ | ⟨e, _⟩ | ⟨e, g, l, o⟩
      · exfalso
        rw [hx, hi] at g'
        rcases h.2.1 with q | q
        · rcases q with q | q | ⟨q, q2⟩ <;> obtain ⟨w1, w2, _⟩ := g' <;> omega
        · exact ng1 q
      · exact absurd e hK
      · obtain ⟨q1, q2, q3, q4⟩ := cls_1 e
        right
        rw [hx]
        exact ⟨q1, q3.symm, by rw [q4, g.2.2.1]⟩
theorem next_i (x : SPair) (m : Nat) (b : Int) : (nextS x m b).i = x.i := by unfold nextS; split <;> rfl
end Go.Proofs.Ytppokfenbdfegaa
