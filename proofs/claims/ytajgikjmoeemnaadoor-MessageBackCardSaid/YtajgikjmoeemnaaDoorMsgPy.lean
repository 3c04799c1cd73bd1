/-
  WHAT message.Parse ANSWERS, as contracts for the laws.
-/
import Derived.Test.YtajgikjmoeemnaaDoorMsgHa
import Derived.Test.YtajgikjmoeemnaaDoorMsp
import Derived.Test.YtajgikjmoeemnaaDoorFlw
namespace Go.Proofs.YtajgikjmoeemnaaDoor
set_option maxRecDepth 100000
open Go.RowKit
set_option linter.unusedVariables false
set_option linter.unusedSimpArgs false
def RetPY (w : World) (t : Mg) (rs : List Rp) (y : List UInt8) (e : Ending) (w' : World) : Prop :=
  ∃ Ar cr By dy Yi, YI By dy y Yi ∧ e = .returned (.tuple #[.agg (mgC (cpM t rs y Ar cr By dy)).toArray, .int .i64 0]) ∧ Hp w w' (rwI Ar cr rs :: Yi)
theorem parse_ok {l : List UInt8} {n : Int} {w : World} (h : paOk l n = true) {t : Mg} {rs : List Rp} {y : List UInt8} (h1 : (allP l).t = t) (h2 : (allP l).rs = rs) (h3 : (allP l).y = y) (A : Option Addr) (c : Nat) {k : Nat} (hk : k = l.length) (hF : FldW w) (hr : Rd w A l) (hc : l.length ≤ c) (hm : c ≤ maxLen) :
    Calls Tryd.prog 17 #[.slice A k c, .int .i64 n] w (RetPY w t rs y) := by
  subst hk h1 h2 h3
  refine (parse_any A c l n w hF hr hc hm).mono fun e w' hp => ?_
  unfold RetPM at hp
  rw [if_pos h] at hp
  exact hp
def RetPW (w : World) (e : Ending) (w' : World) : Prop := ∃ M, e = .returned (.tuple #[.agg (mgC M).toArray, .int .i64 0]) ∧ Below w.heap.size w w'
theorem parse_okw {l : List UInt8} {n : Int} {w : World} (h : paOk l n = true) (A : Option Addr) (c : Nat) {k : Nat} (hk : k = l.length) (hF : FldW w) (hr : Rd w A l) (hc : l.length ≤ c) (hm : c ≤ maxLen) :
    Calls Tryd.prog 17 #[.slice A k c, .int .i64 n] w (RetPW w) := by
  refine (parse_ok h rfl rfl rfl A c hk hF hr hc hm).mono fun e w' hp => ?_
  obtain ⟨Ar, cr, By, dy, Yi, _, he, H⟩ := hp
  exact ⟨_, he, H.below⟩
theorem prL_len (m : Mg) (rs : List Rp) (l : List UInt8) (n : Int) (h : mayM m rs l n = true) : (prL m rs l).length ≤ 9000 := by
  have h24 := may_reps h
  have hk := lets_len m.k
  have m1 := putL_length6 1 m.k
  have m2 := putL_length6 1 (whoN m.fr)
  have m3 := putL_length6 1 (whoN m.to)
  have hf : ∀ fs : List UInt8, (fieldsL fs m rs l).length ≤ 2000 * fs.length := fun fs => by
    induction fs with
    | nil => simp [fieldsL]
    | cons c fs ih =>
      have := fieldL_len c.toNat m rs l h24
      unfold fieldsL at ih ⊢
      rw [List.map_cons, List.flatten_cons, List.length_append, List.length_cons]
      omega
  have := hf (lets m.k)
  unfold prL
  simp only [List.length_append]
  omega
theorem put1_len {x : Int} (h0 : 0 ≤ x) (h1 : x < 256) : (putL 1 x).length = 1 := by rw [putL_one h0 h1]; simp [leB]
theorem prL_len3 (m : Mg) (rs : List Rp) (l : List UInt8) (n : Int) (h : mayM m rs l n = true) (hN : MgN m) : 3 ≤ (prL m rs l).length := by
  obtain ⟨⟨e1, e2⟩, e3, e4⟩ := may_ends h
  have a1 := put1_len hN.1.1 hN.1.2
  have a2 : (putL 1 (whoN m.fr)).length = 1 := put1_len (by unfold whoN; split <;> omega) (by unfold whoN; split <;> omega)
  have a3 : (putL 1 (whoN m.to)).length = 1 := put1_len (by unfold whoN; split <;> omega) (by unfold whoN; split <;> omega)
  unfold prL
  simp only [List.length_append]
  omega
theorem print_mk {m : Mg} {rs : List Rp} {l : List UInt8} {n : Int} (h : mayM m rs l n = true) : printL m rs l n = prL m rs l ∧ printE m rs l n = 0 := by unfold printL printE; rw [if_pos h, if_pos h]; exact ⟨rfl, rfl⟩
theorem print_none {m : Mg} {rs : List Rp} {l : List UInt8} {n : Int} (h : mayM m rs l n = false) : printL m rs l n = [] ∧ printE m rs l n = 2 := by unfold printL printE; rw [h]; exact ⟨rfl, rfl⟩
end Go.Proofs.YtajgikjmoeemnaaDoor
