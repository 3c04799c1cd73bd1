/-
  AN ARGUMENT OF ACTS (sextonlaw28.Act); THE WALK OF sextonlaw28's Great.
-/
import Derived.Test.YtiieakndjheknaaDoorPk4
import Derived.Test.YtiieakndjheknaaDoorNtP
namespace Go.Proofs.YtiieakndjheknaaDoor
set_option maxRecDepth 100000
open Go.ChangeShapes Go.WideShapes Go.ChangeAt Go.RowKit
set_option linter.unusedVariables false
set_option linter.unusedSimpArgs false
/-- an act -/
structure Ac where
  k : Int
  x : MX
  a : Int
  b : Int
def acC (c : Ac) : List Value := .int .u8 c.k :: (mgC c.x.m ++ [.int .i64 c.a, .int .i64 c.b])
def AcOk (w : World) (c : Ac) : Prop := (0 ≤ c.k ∧ c.k < 256) ∧ MgN c.x.m ∧ MgR w c.x.m c.x.rs c.x.l ∧ I64 c.a ∧ I64 c.b
theorem AcOk.below {w w' : World} {c : Ac} (h : AcOk w c) (hb : Below w.heap.size w w') : AcOk w' c := ⟨h.1, h.2.1, h.2.2.1.below hb, h.2.2.2⟩
theorem list30 {α : Type} {l : List α} (h : l.length = 30) : ∃ x0 m x28 x29, l = x0 :: (m ++ [x28, x29]) ∧ m.length = 27 := by
  match l, h with
  | [x0, x1, x2, x3, x4, x5, x6, x7, x8, x9, x10, x11, x12, x13, x14, x15, x16, x17, x18, x19, x20, x21, x22, x23, x24, x25, x26, x27, x28, x29], _ => exact ⟨x0, [x1, x2, x3, x4, x5, x6, x7, x8, x9, x10, x11, x12, x13, x14, x15, x16, x17, x18, x19, x20, x21, x22, x23, x24, x25, x26, x27], x28, x29, rfl, rfl⟩
section
variable {H : Type} {enc : TypeId × Value → H} {w : World} {base : Nat}
theorem Tr.nact {cs : List Value} (h : Tr enc Tryd.prog w base 58 cs) (hl : cs.length = 30) : ∃ c : Ac, cs = acC c ∧ AcOk w c := by
  obtain ⟨x0, m, x28, x29, rfl, hm⟩ := list30 hl
  obtain ⟨y0, y1, y2, y3, y4, y5, y6, y7, y8, y9, y10, y11, y12, y13, y14, y15, y16, y17, y18, y19, y20, y21, y22, y23, y24, y25, y26, rfl⟩ := list27 hm
  have f0 : Tr enc Tryd.prog w base 5 [x0] := h.field Tryd.underlying58 0 rfl 1 (by kernel_rfl)
  have f1 : Tr enc Tryd.prog w base 34 [y0, y1, y2, y3, y4, y5, y6, y7, y8, y9, y10, y11, y12, y13, y14, y15, y16, y17, y18, y19, y20, y21, y22, y23, y24, y25, y26] := h.field Tryd.underlying58 1 rfl 27 (by kernel_rfl)
  have f2 : Tr enc Tryd.prog w base 3 [x28] := h.field Tryd.underlying58 2 rfl 1 (by kernel_rfl)
  have f3 : Tr enc Tryd.prog w base 3 [x29] := h.field Tryd.underlying58 3 rfl 1 (by kernel_rfl)
  obtain ⟨k, rfl, g0⟩ := f0.u8'
  obtain ⟨m, rs, l, e, g1, g2⟩ := f1.msg rfl
  obtain ⟨a, rfl, g3⟩ := f2.i64'
  obtain ⟨b, rfl, g4⟩ := f3.i64'
  refine ⟨⟨k, ⟨m, rs, l⟩, a, b⟩, ?_, g0, g1, g2, g3, g4⟩
  show (.int .u8 k :: ([y0, y1, y2, y3, y4, y5, y6, y7, y8, y9, y10, y11, y12, y13, y14, y15, y16, y17, y18, y19, y20, y21, y22, y23, y24, y25, y26] ++ [.int .i64 a, .int .i64 b])) = _
  rw [e]
  rfl
theorem Tr.nacts {c : Value} (h : Tr enc Tryd.prog w base 51 [c]) :
    ∃ (A : Option Addr) (cap : Nat) (rs : List Ac), c = .slice A rs.length cap ∧ RdR acC 30 w A rs ∧ (∀ x ∈ rs, AcOk w x) ∧ rs.length ≤ cap ∧ cap ≤ maxLen := by
  obtain ⟨A, n, cap, rfl, hl, hm, hg⟩ := h.slice Tryd.underlying51 30 (by kernel_rfl)
  by_cases h0 : n = 0
  · subst h0
    exact ⟨A, cap, [], rfl, fun h => absurd rfl h, (by simp), hl, hm⟩
  · obtain ⟨a, rfl, hg2⟩ := hg (by omega)
    have hx : ∀ i, ∃ x : Ac, i < n → ((∀ j, j < 30 → w.cell? (a.add (i * 30 + j)) = (acC x)[j]?) ∧ AcOk w x) := by
      intro i
      by_cases hi : i < n
      · obtain ⟨cs, hcl, hcc, htr⟩ := hg2 i hi
        obtain ⟨e, rfl, h1⟩ := htr.nact hcl
        exact ⟨e, fun _ => ⟨hcc, h1⟩⟩
      · exact ⟨⟨0, ⟨mg0, [], []⟩, 0, 0⟩, fun h => absurd h hi⟩
    obtain ⟨f, hx'⟩ : ∃ f : Nat → Ac, ∀ i, i < n → ((∀ j, j < 30 → w.cell? (a.add (i * 30 + j)) = (acC (f i))[j]?) ∧ AcOk w (f i)) := ⟨fun i => Classical.choose (hx i), fun i => Classical.choose_spec (hx i)⟩
    refine ⟨some a, cap, (List.range n).map f, by simp, ?_, ?_, by simpa using hl, hm⟩
    · intro _
      obtain ⟨b, o, spot⟩ := a
      have h1 := (hx' 0 (by omega)).1 0 (by omega)
      have hspot : spot = none := by
        have h2 : w.cell? (Addr.add ⟨b, o, spot⟩ (0 * 30 + 0)) = some (.int .u8 (f 0).k) := h1
        simpa [Addr.add] using World.cell?_spot h2
      subst hspot
      refine ⟨b, o, rfl, fun i hi => ?_⟩
      have hi' : i < n := by simpa using hi
      intro j v hj
      have h7 : j < 30 := by
        have := (List.getElem?_eq_some_iff.1 hj).1
        exact this
      have := (hx' i hi').1 j h7
      rw [Addr.add_lit] at this
      rw [Nat.add_assoc, this]
      simpa using hj
    · intro e he
      obtain ⟨i, hi, rfl⟩ := List.mem_map.1 he
      exact (hx' i (by simpa using hi)).2
end
/-! where an act's parts lie -/
section
variable {w : World} {A : Option Addr} {ac : List Ac} {i b o : Nat}
theorem ac_cell (h : RdR acC 30 w A ac) (hi : i < ac.length) : ∃ b o, A = some ⟨b, o, none⟩ ∧ w.cell? ⟨b, o + i * 30, none⟩ = some (.int .u8 ac[i].k) ∧ w.rangeAt b (o + i * 30 + 1) (mgC ac[i].x.m) ∧ w.cell? ⟨b, o + i * 30 + 28, none⟩ = some (.int .i64 ac[i].a) ∧ w.cell? ⟨b, o + i * 30 + 29, none⟩ = some (.int .i64 ac[i].b) := by
  obtain ⟨b, o, e, hc⟩ := h.at_ hi
  have h1 := hc i hi
  refine ⟨b, o, e, h1 0 _ rfl, fun j v hj => ?_, h1 28 _ rfl, h1 29 _ rfl⟩
  have hj27 : j < 27 := (List.getElem?_eq_some_iff.1 hj).1
  have h2 := h1 (1 + j) v (by
    show (.int .u8 ac[i].k :: (mgC ac[i].x.m ++ [.int .i64 ac[i].a, .int .i64 ac[i].b]))[1 + j]? = _
    rw [Nat.add_comm, List.getElem?_cons_succ, List.getElem?_append_left (show j < (mgC ac[i].x.m).length from hj27)]
    exact hj)
  rwa [← Nat.add_assoc] at h2
end
def grA (ac : List Ac) : Bool := decide ((300 : Int) < ac.length) || ac.any (fun c => grM c.x.m c.x.rs)
theorem grA_no {ac : List Ac} (h : grA ac = false) : ac.length ≤ 300 ∧ ∀ c ∈ ac, grM c.x.m c.x.rs = false := by
  simp only [grA, Bool.or_eq_false_iff, decide_eq_false_iff_not, List.any_eq_false] at h
  exact ⟨by omega, fun c hc => by simpa using h.2 c hc⟩
theorem greatM_v {m : Mg} {rs : List Rp} {l : List UInt8} {w : World} {b : Bool} (hg : grM m rs = b) (hr : MgR w m rs l) : Calls Tryd.prog 8 #[.agg (mgC m).toArray] w (RetV w (.bool b)) := by
  subst hg
  exact greatM_any m rs l w hr
def GaRel (w0 : World) (ac : List Ac) (v : Value) (wr : World) : Prop := ∃ k : Nat, v = .int .i64 k ∧ k ≤ ac.length ∧ (∀ j (h : j < ac.length), j < k → grM ac[j].x.m ac[j].x.rs = false) ∧ Hp w0 wr []
set_option maxHeartbeats 2000000 in
theorem great28_any (A : Option Addr) (c : Nat) (ac : List Ac) (w : World) (hr : RdR acC 30 w A ac) (hok : ∀ x ∈ ac, AcOk w x) : Calls Tryd.prog 17 #[.slice A ac.length c] w (RetV w (.bool (grA ac))) := by
  have H := Hp.nil w
  cases h3 : decide ((300 : Int) < ac.length)
  · have hat0 : GaRel w ac (.int .i64 (0 : Nat)) w := ⟨0, rfl, Nat.zero_le _, fun j _ h => absurd h (by omega), H⟩
    have h3' := of_decide_eq_false h3
    clear H
    go_enter Tryd.func17, Tryd.ntmps17
    go_wp2_with fail
    go_loopw [3] (fun v wr => GaRel w ac v wr) (fun v _ => ac.length - (intOf v).toNat)
    case atStart => exact hat0
    case round =>
      clear hat0
      obtain ⟨k, rfl, hk, hall, H⟩ := hrel
      by_cases hlt : k < ac.length
      · obtain ⟨b, o, rfl, _, hrow, _, _⟩ := ac_cell hr hlt
        have hk1 : IntKind.i64.wrap ((k : Int) + 1) = ((k + 1 : Nat) : Int) := IntWalk.i64_in _ (by omega)
        have hmr := (hok ac[k] (List.getElem_mem hlt)).2.2.1
        have HALL := Lib.hid hall
        clear hall
        cases hg : grM ac[k].x.m ac[k].x.rs
        · go_wp2_with (first | ((with_reducible refine Hp.lda H ?_); refine ⟨rfl, by kernel_rfl, ?_⟩; refine ⟨_, s_look rfl, ?_⟩; refine ⟨_, rfl, ?_⟩; ((repeat ((fail_if_success refine ⟨_, _, _, .z, ?_⟩); refine hs ?_)); refine ⟨_, _, _, .z, ?_⟩); refine ⟨rfl, ?_⟩; go_frame) | ((with_reducible refine Hp.lds H ?_); refine ⟨rfl, by kernel_rfl, ?_⟩; refine ⟨_, s_look rfl, ?_⟩; refine ⟨_, _, rfl, ?_⟩; ((repeat ((fail_if_success refine ⟨_, _, _, .z, ?_⟩); refine hs ?_)); refine ⟨_, _, _, .z, ?_⟩); (first | refine ⟨[_, _], rfl, rfl, ?_⟩ | refine ⟨[_, _, _, _], rfl, rfl, ?_⟩ | refine ⟨[_, _, _, _, _, _, _], rfl, rfl, ?_⟩ | refine ⟨[_, _, _], rfl, rfl, ?_⟩ | (fail)); go_frame) | ((with_reducible refine Hp.ldrO H ?_); refine ⟨rfl, by kernel_rfl, _, _, rfl, mgC ac[k].x.m, hrow, s_Msg, ?_⟩; go_frame) | ((with_reducible refine (greatM_v hg (hmr.below H.below)).mono ?_); rintro _ w1 ⟨rfl, hb⟩; replace H := H.call hb; clear hb))
          go_roundw
          case rel =>
            refine ⟨k + 1, rfl, hlt, fun j hj hjk => ?_, H⟩
            by_cases hjk2 : j < k
            · exact HALL.out j hj hjk2
            · obtain rfl : j = k := by omega
              exact hg
          case measure => show ac.length - (k + 1) < ac.length - k; omega
        · go_wp2_with (first | ((with_reducible refine Hp.lda H ?_); refine ⟨rfl, by kernel_rfl, ?_⟩; refine ⟨_, s_look rfl, ?_⟩; refine ⟨_, rfl, ?_⟩; ((repeat ((fail_if_success refine ⟨_, _, _, .z, ?_⟩); refine hs ?_)); refine ⟨_, _, _, .z, ?_⟩); refine ⟨rfl, ?_⟩; go_frame) | ((with_reducible refine Hp.lds H ?_); refine ⟨rfl, by kernel_rfl, ?_⟩; refine ⟨_, s_look rfl, ?_⟩; refine ⟨_, _, rfl, ?_⟩; ((repeat ((fail_if_success refine ⟨_, _, _, .z, ?_⟩); refine hs ?_)); refine ⟨_, _, _, .z, ?_⟩); (first | refine ⟨[_, _], rfl, rfl, ?_⟩ | refine ⟨[_, _, _, _], rfl, rfl, ?_⟩ | refine ⟨[_, _, _, _, _, _, _], rfl, rfl, ?_⟩ | refine ⟨[_, _, _], rfl, rfl, ?_⟩ | (fail)); go_frame) | ((with_reducible refine Hp.ldrO H ?_); refine ⟨rfl, by kernel_rfl, _, _, rfl, mgC ac[k].x.m, hrow, s_Msg, ?_⟩; go_frame) | ((with_reducible refine (greatM_v hg (hmr.below H.below)).mono ?_); rintro _ w1 ⟨rfl, hb⟩; replace H := H.call hb; clear hb))
          go_ret
          have : ac.any (fun c => grM c.x.m c.x.rs) = true := List.any_eq_true.2 ⟨ac[k], List.getElem_mem hlt, hg⟩
          exact ⟨ret_bool (by unfold grA; rw [h3, this]; rfl), H.below⟩
      · obtain rfl : k = ac.length := by omega
        have hjj : decide ((ac.length : Int) < (ac.length : Int)) = false := decide_eq_false (by omega)
        have : ac.any (fun c => grM c.x.m c.x.rs) = false := by
          rw [List.any_eq_false]
          intro x hx
          obtain ⟨i, hi, rfl⟩ := List.getElem_of_mem hx
          rw [hall i hi hi]
          decide
        clear hall
        go_wp2_with (first | ((with_reducible refine Hp.lda H ?_); refine ⟨rfl, by kernel_rfl, ?_⟩; refine ⟨_, s_look rfl, ?_⟩; refine ⟨_, rfl, ?_⟩; ((repeat ((fail_if_success refine ⟨_, _, _, .z, ?_⟩); refine hs ?_)); refine ⟨_, _, _, .z, ?_⟩); refine ⟨rfl, ?_⟩; go_frame) | ((with_reducible refine Hp.lds H ?_); refine ⟨rfl, by kernel_rfl, ?_⟩; refine ⟨_, s_look rfl, ?_⟩; refine ⟨_, _, rfl, ?_⟩; ((repeat ((fail_if_success refine ⟨_, _, _, .z, ?_⟩); refine hs ?_)); refine ⟨_, _, _, .z, ?_⟩); (first | refine ⟨[_, _], rfl, rfl, ?_⟩ | refine ⟨[_, _, _, _], rfl, rfl, ?_⟩ | refine ⟨[_, _, _, _, _, _, _], rfl, rfl, ?_⟩ | refine ⟨[_, _, _], rfl, rfl, ?_⟩ | (fail)); go_frame) | (fail))
        go_ret
        exact ⟨ret_bool (by unfold grA; rw [h3, this]; rfl), H.below⟩
  · go_enter Tryd.func17, Tryd.ntmps17
    go_wp2_with fail
    go_ret
    exact ⟨ret_bool (by unfold grA; rw [h3]; rfl), H.below⟩
end Go.Proofs.YtiieakndjheknaaDoor
