/-
  ARGUMENTS OPENED: what the walk of a law is told of each argument; the row's step that is alike in all laws.
-/
import Derived.Test.YtanpglhpmfdnmaaMem
namespace Go.Proofs.Ytanpglhpmfdnmaa
open Go.ChangeShapes Go.WideShapes Go.ChangeAt Go.RowKit
open Go.ChangeMaps (open_string shut_string)

theorem own_ : ownKnob Try.prog.godebug = none := by kernel_rfl
theorem laidOut_ : laidOutB Try.prog = true := by kernel_rfl

section
variable {H : Type} {enc : TypeId × Value → H} {P : Program} {w : World} {base : Nat} {r : Reach} {b0 : Nat}

theorem open_int_i64 {t : TypeId} {v : Value} {d : DataW H} {ps : List MemPlace} (ht : P.underlying t = some (.int .i64)) (hval : Value.okWide P w r b0 t v) (hd : DataW.Trod enc P w base (fun _ => true) true t v d ps) :
    ∃ n : Int, v = .int .i64 n ∧ -9223372036854775808 ≤ n ∧ n ≤ 9223372036854775807 := by
  obtain ⟨n, rfl, _, _, hw⟩ := open_int ht hval hd
  simp [Lit.wf, IntKind.min, IntKind.max, IntKind.signed, IntKind.bits] at hw
  exact ⟨n, rfl, by omega, by omega⟩

theorem open_uint {k : IntKind} {t : TypeId} {v : Value} {d : DataW H} {ps : List MemPlace} (hk : k.signed = false) (ht : P.underlying t = some (.int k)) (hval : Value.okWide P w r b0 t v) (hd : DataW.Trod enc P w base (fun _ => true) true t v d ps) :
    ∃ n : Nat, v = .int k n ∧ n < 2 ^ k.bits := by
  obtain ⟨n, rfl, _, _, hw⟩ := open_int ht hval hd
  simp [Lit.wf, IntKind.min, IntKind.max, hk] at hw
  refine ⟨n.toNat, by congr; omega, ?_⟩
  have h2 : n < 2 ^ k.bits := by omega
  have h3 : ((n.toNat : Nat) : Int) < ((2 ^ k.bits : Nat) : Int) := by
    rw [Int.toNat_of_nonneg hw.1]
    simpa using h2
  omega
theorem nat_of {k : IntKind} {n : Int} (h0 : 0 ≤ n) : ∃ m : Nat, Value.int k n = .int k m ∧ n = m := ⟨n.toNat, by congr; omega, by omega⟩

theorem open_bytes {t e : TypeId} {v : Value} {d : DataW H} {ps : List MemPlace} (ht : P.underlying t = some (.slice e)) (he : P.underlying e = some (.int .u8)) (hc : P.cellsOf e = 1) (hval : Value.okWide P w r b0 t v)
    (hd : DataW.Trod enc P w base (fun _ => true) true t v d ps) :
    ∃ (A : Option Addr) (c : Nat) (l : List UInt8), v = .slice A l.length c ∧ Rd w A l ∧ l.length ≤ c ∧ c ≤ maxLen := by
  obtain ⟨a, len, cap, rfl⟩ := okWide_slice ht hval
  obtain ⟨fuel, hf⟩ := hd
  rcases open_ints ht he hc hf with ⟨hcs, _⟩ | ⟨x, l, c, zs, hcs, _, hl, hm, hz, _, hcell, hwz⟩
  · simp [Value.cells] at hcs
    obtain ⟨rfl, rfl, rfl⟩ := hcs
    exact ⟨none, 0, [], rfl, Rd.nil _ _, Nat.le_refl _, Nat.zero_le _⟩
  · simp [Value.cells] at hcs
    obtain ⟨rfl, rfl, rfl⟩ := hcs
    simp at hz
    refine ⟨some x, cap, (zs.take len).map (fun n => UInt8.ofNat n.toNat), ?_, ?_, ?_, hm⟩
    · congr 1; simp; omega
    · intro hn
      have hpos : 0 < len := by
        rcases Nat.eq_zero_or_pos len with h | h
        · subst h; simp at hn
        · exact h
      obtain ⟨b, o, spot⟩ := x
      have h0 := hcell 0 (by omega)
      have hspot : spot = none := by simpa [Addr.add] using World.cell?_spot h0
      subst hspot
      refine ⟨b, o, rfl, fun i hi => ?_⟩
      have hi2 : i < len := by simp at hi; omega
      have h1 := hcell i (by omega)
      rw [Addr.add_lit] at h1
      rw [h1]
      have hwf := hwz (zs.getD i 0) (by rw [List.getD_eq_getElem?_getD, List.getElem?_eq_getElem (by omega)]; simp)
      simp [Lit.wf, IntKind.min, IntKind.max, IntKind.signed, IntKind.bits] at hwf
      have hg : (zs.take len)[i]'(by simp; omega) = zs.getD i 0 := by
        rw [List.getElem_take, List.getD_eq_getElem?_getD, List.getElem?_eq_getElem (by omega)]; rfl
      simp only [List.getElem_map, hg]
      congr 2
      rw [UInt8.toNat_ofNat']
      have hx : zs.getD i 0 = zs[i]?.getD 0 := List.getD_eq_getElem?_getD ..
      rw [hx]
      omega
    · simp; omega
end
end Go.Proofs.Ytanpglhpmfdnmaa
