/-
  BOTH NETS, the program's and the reference's, beside each other.
-/
import Derived.Test.YtiieakndjheknaaDoorNrC
import Derived.Test.YtiieakndjheknaaDoorNrE
import Derived.Test.YtiieakndjheknaaDoorNtF
namespace Go.Proofs.YtiieakndjheknaaDoor
set_option maxRecDepth 100000
open Go.RowKit
set_option linter.unusedVariables false
set_option linter.unusedSimpArgs false
/-- a net of the program at g, a net of the reference at gw -/
def PlZ (w0 w : World) (g gw : Nat) (n : Int) (cut : List Bool) (cs : List MX) (cutw : List Bool) (csw : List MX) (b : Nat) (F Z : List Item) : Prop :=
  ∃ A c fl Aw cw flw B d ps, fl.map cx = cs ∧ Held Z fl ∧ cs.length ≤ 200 ∧ cut.length = 49 ∧ flw.map cx = csw ∧ Held Z flw ∧ csw.length ≤ 200 ∧ ps.length ≤ b ∧ cutw.length = 49 ∧ (∀ x y, cutP ps x y = cutB n cutw x y) ∧
    Hp w0 w (netI g n A fl.length c cut :: mwI A c fl :: rfI gw n Aw flw.length cw B ps.length d :: mwI Aw cw flw :: prI B d ps :: (F ++ Z))
def RetP (w0 : World) (g gw : Nat) (n : Int) (cut : List Bool) (cs : List MX) (cutw : List Bool) (csw : List MX) (b : Nat) (F Z : List Item) (v : Value) (e : Ending) (w' : World) : Prop :=
  e = .returned v ∧ ∃ Z', Z ⊆ Z' ∧ PlZ w0 w' g gw n cut cs cutw csw b F Z'
section
variable {w0 w : World} {g gw : Nat} {n : Int} {cut cutw : List Bool} {cs csw : List MX} {b : Nat} {F Z : List Item} {f : FuncId} {args : Array Value}
theorem PlZ.liftN {post : (World → List Item → Prop) → List Item → Ending → World → Prop} {post2 : Ending → World → Prop} (HP : PlZ w0 w g gw n cut cs cutw csw b F Z)
    (h : ∀ F', F ⊆ F' → NetZ w0 w g n cut cs F' Z → Calls Tryd.prog f args w (fun e w' => ∃ cut' cs' Z', Z ⊆ Z' ∧ NetZ w0 w' g n cut' cs' F' Z' ∧ (PlZ w0 w' g gw n cut' cs' cutw csw b F Z' → post2 e w'))) : Calls Tryd.prog f args w post2 := by
  obtain ⟨A, c, fl, Aw, cw, flw, B, d, ps, e1, e2, e3, e4, r1, r2, r3, r4, r5, r6, H⟩ := HP
  refine (h ([rfI gw n Aw flw.length cw B ps.length d, mwI Aw cw flw, prI B d ps] ++ F) (List.subset_append_right _ _) ⟨A, c, fl, e1, e2, e3, e4, H⟩).mono ?_
  rintro e w' ⟨cut', cs', Z', hZ, ⟨A', c', fl', k1, k2, k3, k4, H'⟩, hk⟩
  exact hk ⟨A', c', fl', Aw, cw, flw, B, d, ps, k1, k2, k3, k4, r1, r2.mono hZ, r3, r4, r5, r6, H'⟩
theorem PlZ.liftR {post2 : Ending → World → Prop} (HP : PlZ w0 w g gw n cut cs cutw csw b F Z)
    (h : ∀ F', F ⊆ F' → RfZ w0 w gw n cutw b csw F' Z → Calls Tryd.prog f args w (fun e w' => ∃ cut' b' cs' Z', Z ⊆ Z' ∧ RfZ w0 w' gw n cut' b' cs' F' Z' ∧ (PlZ w0 w' g gw n cut cs cut' cs' b' F Z' → post2 e w'))) : Calls Tryd.prog f args w post2 := by
  obtain ⟨A, c, fl, Aw, cw, flw, B, d, ps, e1, e2, e3, e4, r1, r2, r3, r4, r5, r6, H⟩ := HP
  refine (h ([netI g n A fl.length c cut, mwI A c fl] ++ F) (List.subset_append_right _ _) ⟨Aw, cw, flw, B, d, ps, r1, r2, r3, r4, r5, r6, H.perm (perm_mid [_, _] [_, _, _] (F ++ Z))⟩).mono ?_
  rintro e w' ⟨cut', b', cs', Z', hZ, ⟨A', c', fl', B', d', ps', k1, k2, k3, k4, k5, k6, H'⟩, hk⟩
  exact hk ⟨A, c, fl, A', c', fl', B', d', ps', e1, e2.mono hZ, e3, e4, k1, k2, k3, k4, k5, k6, H'.perm (perm_mid [_, _, _] [_, _] (F ++ Z'))⟩
theorem PlZ.toN (HP : PlZ w0 w g gw n cut cs cutw csw b F Z) {cut' : List Bool} {cs' : List MX} {v : Value} (h : ∀ F', F ⊆ F' → NetZ w0 w g n cut cs F' Z → Calls Tryd.prog f args w (RetN w0 g n cut' cs' F' Z v)) : Calls Tryd.prog f args w (RetP w0 g gw n cut' cs' cutw csw b F Z v) :=
  HP.liftN (post := fun _ _ _ _ => True) fun F' hF HN => (h F' hF HN).mono fun e w' hp => by
    obtain ⟨rfl, Z', hZ, H'⟩ := hp
    exact ⟨cut', cs', Z', hZ, H', fun q => ⟨rfl, Z', hZ, q⟩⟩
theorem PlZ.toR (HP : PlZ w0 w g gw n cut cs cutw csw b F Z) {cut' : List Bool} {b' : Nat} {cs' : List MX} {v : Value} (h : ∀ F', F ⊆ F' → RfZ w0 w gw n cutw b csw F' Z → Calls Tryd.prog f args w (RetRf w0 gw n cut' b' cs' F' Z v)) : Calls Tryd.prog f args w (RetP w0 g gw n cut cs cut' cs' b' F Z v) :=
  HP.liftR fun F' hF HN => (h F' hF HN).mono fun e w' hp => by
    obtain ⟨rfl, Z', hZ, H'⟩ := hp
    exact ⟨cut', b', cs', Z', hZ, H', fun q => ⟨rfl, Z', hZ, q⟩⟩
theorem sub_FZ {F F' Z : List Item} (h : F ⊆ F') : F ++ Z ⊆ F' ++ Z := fun i hi => by
  rcases List.mem_append.1 hi with hi | hi
  · exact List.mem_append_left _ (h hi)
  · exact List.mem_append_right _ hi
/-! the contracts, by letters -/
theorem psend_v {m : Mg} {rs : List Rp} {l : List UInt8} {R : Int} {L : List MX} (HP : PlZ w0 w g gw n cut cs cutw csw b F Z) (hF : FldW w0) (hn : crowdB n = true) (hM : MgS w0 (F ++ Z) m rs l) (ho : OkX ⟨m, rs, l⟩) (hR : nsndR n cut cs (cx ⟨m, rs, l⟩) = R) (hL : nsndL n cut cs (cx ⟨m, rs, l⟩) = L) :
    Calls Tryd.prog 11 #[.pointer (some ⟨g, 0, none⟩), .agg (mgC m).toArray] w (RetP w0 g gw n cut L cutw csw b F Z (.int .i64 R)) := by
  subst hR hL
  exact HP.toN fun F' hS HN => nsend_o HN hF hn (hM.mono (sub_FZ hS)) ho
theorem qsend_v {m : Mg} {rs : List Rp} {l : List UInt8} {R : Int} {L : List MX} (HP : PlZ w0 w g gw n cut cs cutw csw b F Z) (hb : b ≤ 1000) (hn : crowdB n = true) (hM : MgS w0 (F ++ Z) m rs l) (ho : OkX ⟨m, rs, l⟩) (hR : nsndR n cutw csw (cx ⟨m, rs, l⟩) = R) (hL : nsndL n cutw csw (cx ⟨m, rs, l⟩) = L) :
    Calls Tryd.prog 21 #[.pointer (some ⟨gw, 0, none⟩), .agg (mgC m).toArray] w (RetP w0 g gw n cut cs cutw L b F Z (.int .i64 R)) := by
  subst hR hL
  exact HP.toR fun F' hS HN => rsend_o HN hb hn (hM.mono (sub_FZ hS)) ho
theorem pcopy_v {i R : Int} {L : List MX} (HP : PlZ w0 w g gw n cut cs cutw csw b F Z) (hn : crowdB n = true) (hi : i ≤ 9223372036854775807) (hR : ncpyR cs = R) (hL : ncpyL cs i = L) :
    Calls Tryd.prog 12 #[.pointer (some ⟨g, 0, none⟩), .int .i64 i] w (RetP w0 g gw n cut L cutw csw b F Z (.int .i64 R)) := by
  subst hR hL
  exact HP.toN fun F' hS HN => ncopy_o HN hn i hi
theorem qcopy_v {i R : Int} {L : List MX} (HP : PlZ w0 w g gw n cut cs cutw csw b F Z) (hi : i ≤ 9223372036854775807) (hR : ncpyR csw = R) (hL : ncpyL csw i = L) :
    Calls Tryd.prog 24 #[.pointer (some ⟨gw, 0, none⟩), .int .i64 i] w (RetP w0 g gw n cut cs cutw L b F Z (.int .i64 R)) := by
  subst hR hL
  exact HP.toR fun F' hS HN => rcopy28_o HN i hi
theorem pdrop_v {i R : Int} {L : List MX} (HP : PlZ w0 w g gw n cut cs cutw csw b F Z) (hn : crowdB n = true) (hi : i ≤ 9223372036854775807) (hR : natE cs = R) (hL : ntakL cs i = L) :
    Calls Tryd.prog 13 #[.pointer (some ⟨g, 0, none⟩), .int .i64 i] w (RetP w0 g gw n cut L cutw csw b F Z (.int .i64 R)) := by
  subst hR hL
  exact HP.toN fun F' hS HN => ndrop_o HN hn i hi
theorem pcut_v {x y R : Int} {C : List Bool} {L : List MX} (HP : PlZ w0 w g gw n cut cs cutw csw b F Z) (hn : crowdB n = true) (hC : ncutC n cut x y = C) (hL : ncutL n cut cs x y = L) (hR : ncutR n x y = R) :
    Calls Tryd.prog 14 #[.pointer (some ⟨g, 0, none⟩), .int .i64 x, .int .i64 y] w (RetP w0 g gw n C L cutw csw b F Z (.int .i64 R)) :=
  HP.toN fun F' hS HN => ncut_v HN hn hC hL hR
theorem qcut_v {x y R : Int} {C : List Bool} {L : List MX} (HP : PlZ w0 w g gw n cut cs cutw csw b F Z) (hb : b < 1000) (hn : crowdB n = true) (hC : ncutC n cutw x y = C) (hL : ncutL n cutw csw x y = L) (hR : ncutR n x y = R) :
    Calls Tryd.prog 25 #[.pointer (some ⟨gw, 0, none⟩), .int .i64 x, .int .i64 y] w (RetP w0 g gw n cut cs C L (b + 1) F Z (.int .i64 R)) := by
  subst hR hL hC
  exact HP.toR fun F' hS HN => rcut_o HN hb hn x y
theorem pheal_o (HP : PlZ w0 w g gw n cut cs cutw csw b F Z) (hn : crowdB n = true) :
    Calls Tryd.prog 10 #[.pointer (some ⟨g, 0, none⟩)] w (RetP w0 g gw n cut0 cs cutw csw b F Z (.tuple #[])) := HP.toN fun F' hS HN => nheal_o HN hn
theorem qheal_o (HP : PlZ w0 w g gw n cut cs cutw csw b F Z) :
    Calls Tryd.prog 26 #[.pointer (some ⟨gw, 0, none⟩)] w (RetP w0 g gw n cut cs cut0 csw b F Z (.tuple #[])) := HP.toR fun F' hS HN => rheal_o HN
/-- what Take answers: none, or the message, by its contents -/
def TkM (cs : List MX) (i : Int) (Z : List Item) (x : MX) : Prop := (cs = [] ∧ x = ⟨mg0, [], []⟩) ∨ (cs[natI cs i]? = some (cx x) ∧ cs ≠ [] ∧ Held Z [x])
def RetPT (w0 : World) (g gw : Nat) (n : Int) (cut : List Bool) (cs0 cs : List MX) (i : Int) (cutw : List Bool) (csw : List MX) (b : Nat) (F Z : List Item) (R : Int) (e : Ending) (w' : World) : Prop :=
  ∃ x Z', e = .returned (.tuple #[.agg (mgC x.m).toArray, .int .i64 R]) ∧ Z ⊆ Z' ∧ TkM cs0 i Z' x ∧ PlZ w0 w' g gw n cut cs cutw csw b F Z'
theorem natE_ne {cs : List MX} (h : cs ≠ []) : natE cs = 0 := if_neg fun e => h (List.length_eq_zero_iff.1 e)
theorem ptake_v {i R : Int} {L : List MX} (HP : PlZ w0 w g gw n cut cs cutw csw b F Z) (hn : crowdB n = true) (hi : i ≤ 9223372036854775807) (hR : natE cs = R) (hL : ntakL cs i = L) :
    Calls Tryd.prog 9 #[.pointer (some ⟨g, 0, none⟩), .int .i64 i] w (RetPT w0 g gw n cut cs L i cutw csw b F Z R) := by
  subst hR hL
  refine HP.liftN (post := fun _ _ _ _ => True) fun F' hS HN => (ntake_o HN hn i hi).mono fun e w' hp => ?_
  obtain ⟨Z', hZ, cs', rfl, HN', h⟩ := hp
  refine ⟨cut, _, Z', hZ, HN', fun q => ?_⟩
  rcases h with ⟨rfl, rfl⟩ | ⟨x, hx, hne, hh, rfl⟩
  · exact ⟨⟨mg0, [], []⟩, Z', rfl, hZ, .inl ⟨rfl, rfl⟩, q⟩
  · exact ⟨x, Z', by rw [natE_ne hne], hZ, .inr ⟨hx, hne, hh⟩, q⟩
theorem qtake_v {i R : Int} {L : List MX} (HP : PlZ w0 w g gw n cut cs cutw csw b F Z) (hi : i ≤ 9223372036854775807) (hR : natE csw = R) (hL : ntakL csw i = L) :
    Calls Tryd.prog 23 #[.pointer (some ⟨gw, 0, none⟩), .int .i64 i] w (fun e w' => ∃ x Z', e = .returned (.tuple #[.agg (mgC x.m).toArray, .int .i64 R]) ∧ Z ⊆ Z' ∧ TkM csw i Z' x ∧ PlZ w0 w' g gw n cut cs cutw L b F Z') := by
  subst hR hL
  refine HP.liftR fun F' hS HN => (rtake_o HN i hi).mono fun e w' hp => ?_
  obtain ⟨Z', hZ, cs', rfl, HN', h⟩ := hp
  refine ⟨cutw, b, _, Z', hZ, HN', fun q => ?_⟩
  rcases h with ⟨rfl, rfl⟩ | ⟨x, hx, hne, hh, rfl⟩
  · exact ⟨⟨mg0, [], []⟩, Z', rfl, hZ, .inl ⟨rfl, rfl⟩, q⟩
  · exact ⟨x, Z', by rw [natE_ne hne], hZ, .inr ⟨hx, hne, hh⟩, q⟩
theorem TkM.same {i : Int} {Z : List Item} {x y : MX} (h1 : TkM cs i Z x) (h2 : TkM cs i Z y) : sameM x.m x.rs x.l y.m y.rs y.l = true := by
  rcases h1 with ⟨e, rfl⟩ | ⟨hx, hne, _⟩
  · rcases h2 with ⟨_, rfl⟩ | ⟨_, hne, _⟩
    · exact sameX.2 rfl
    · exact absurd e hne
  · rcases h2 with ⟨e, rfl⟩ | ⟨hy, _, _⟩
    · exact absurd e hne
    · rw [hx] at hy
      injection hy with hy
      exact sameX.2 hy
theorem TkM.mono {i : Int} {Z Z' : List Item} {x : MX} (h : TkM cs i Z x) (s : Z ⊆ Z') : TkM cs i Z' x := by
  rcases h with h | ⟨a, b, c⟩
  · exact .inl h
  · exact .inr ⟨a, b, c.mono s⟩
theorem mg0_s (w0 : World) (Y : List Item) : MgS w0 Y mg0 [] [] := fun w1 _ _ _ => ⟨rfl, fun h => absurd rfl h, by simp, Nat.le_refl _, Nat.zero_le _, rfl, Rd.nil _ _, Nat.le_refl _, Nat.zero_le _⟩
theorem TkM.S {i : Int} {Z : List Item} {x : MX} (h : TkM cs i Z x) (w0 : World) : MgS w0 Z x.m x.rs x.l := by
  rcases h with ⟨_, rfl⟩ | ⟨_, _, h⟩
  · exact mg0_s _ _
  · exact h.S (List.mem_singleton.2 rfl) w0
end
end Go.Proofs.YtiieakndjheknaaDoor
