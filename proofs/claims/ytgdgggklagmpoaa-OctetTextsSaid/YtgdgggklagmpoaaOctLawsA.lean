/-
  THE WALKS OF THE LAWS ON OCTETS (those that ask the reference): each returns true, and writes nothing that was there.
-/
import Derived.Test.YtgdgggklagmpoaaOct
import Derived.Test.YtgdgggklagmpoaaRef01
namespace Go.Proofs.Ytgdgggklagmpoaa
open Go.RowKit
set_option linter.unusedVariables false

theorem eqB_self (l : List UInt8) : eqB l l = true := by simp [eqB]

theorem textL_length (s : List UInt8) : (textL s).length ≤ 256 := by
  unfold textL
  split
  · simp; omega
  · simp
theorem putL_length (width n : Int) : (putL width n).length ≤ 6 := by
  unfold putL
  split
  · rename_i h
    have := fitsB_true h
    rw [leB_length]; omega
  · simp

set_option maxHeartbeats 400000 in
theorem octetPuts_walk (a0 a1 : Int) (w : World) (w0l : -9223372036854775808 ≤ a0) (w0h : a0 ≤ 9223372036854775807) (w1l : -9223372036854775808 ≤ a1) (w1h : a1 ≤ 9223372036854775807) :
    Calls Try.prog 4 #[.int .i64 a0, .int .i64 a1] w (RetV w (.bool true)) := by
  have hl := putL_length a0 a1
  have hml := le_maxLen
  go_enter Try.func4, Try.ntmps4
  go_wp2_with fail
  refine (put_any _ _ _).mono ?_
  rintro e w1 ⟨A1, c1, rfl, hown1, hb1⟩
  go_wp2_with fail
  refine (rput_any _ _ _ w1h).mono ?_
  rintro e w2 ⟨A2, c2, rfl, hown2, hb2⟩
  go_wp2_with fail
  refine (fits_any _ _ _).mono ?_
  rintro e w3 ⟨rfl, hb3⟩
  go_wp2_with fail
  refine (rfits_any _ _ _ w1h).mono ?_
  rintro e w4 ⟨rfl, rfl⟩
  go_wp2_with fail
  refine (same_any _ _ _ _ _ _ _ ((hown1.below hb2).below hb3).rd (hown2.below hb3).rd (by omega) (by omega)).mono ?_
  rw [eqB_self]
  rintro e w5 ⟨rfl, hb5⟩
  go_wp2_with fail
  go_ret
  exact ⟨rfl, bt (bt (bt hb1 hb2) hb3) hb5⟩

set_option maxHeartbeats 400000 in
theorem octetGets_walk (A : Option Addr) (c : Nat) (l : List UInt8) (at_ width : Int) (w : World) (hr : Rd w A l) (hc : l.length ≤ c) (hm : c ≤ maxLen) (w1l : -9223372036854775808 ≤ at_) (w1h : at_ ≤ 9223372036854775807) (w2l : -9223372036854775808 ≤ width) (w2h : width ≤ 9223372036854775807) :
    Calls Try.prog 5 #[.slice A l.length c, .int .i64 at_, .int .i64 width] w (RetV w (.bool true)) := by
  by_cases hlen : 1000 < l.length
  · go_enter Try.func5, Try.ntmps5
    go_wp2_with fail
    go_ret
    exact ⟨rfl, Below.refl _ _⟩
  have hml := le_maxLen
  go_enter Try.func5, Try.ntmps5
  go_wp2_with fail
  refine (copy_any _ _ _ _ hr (by omega)).mono ?_
  rintro e w1 ⟨A1, c1, rfl, hown1, hb1⟩
  obtain ⟨hc1, hm1⟩ := hown1.caps
  have hr1 := hown1.rd
  go_wp2_with fail
  refine (get_any _ _ _ _ _ _ hr1 hc1 hm1).mono ?_
  rintro e w2 ⟨rfl, hb2⟩
  go_wp2_with fail
  refine (rget_any _ _ _ _ _ _ (hr.below (bt hb1 hb2)) (by omega)).mono ?_
  rintro e w3 ⟨rfl, rfl⟩
  go_wp2_with fail
  refine (read_any _ _ _ _ _ (hr1.below hb2) hc1 hm1).mono ?_
  rintro e w3 ⟨rfl, hb3⟩
  go_wp2_with fail
  refine (rread_any _ _ _ _ _ (hr.below (bt (bt hb1 hb2) hb3)) hc hm).mono ?_
  rintro e w4 ⟨rfl, rfl⟩
  go_wp2_with fail
  refine (same_any _ _ _ _ _ _ _ ((hr1.below hb2).below hb3) (hr.below (bt (bt hb1 hb2) hb3)) (by omega) (by omega)).mono ?_
  rw [eqB_self]
  rintro e w5 ⟨rfl, hb5⟩
  go_wp2_with fail
  go_ret
  exact ⟨rfl, bt (bt (bt hb1 hb2) hb3) hb5⟩

set_option maxHeartbeats 400000 in
theorem octetTexts_walk (s : ByteArray) (A : Option Addr) (c : Nat) (l : List UInt8) (B : Option Addr) (d : Nat) (m : List UInt8) (w : World) (hs : s.size ≤ maxLen) (hr : Rd w A l) (hc : l.length ≤ c) (hm : c ≤ maxLen) (hr2 : Rd w B m) (hc2 : m.length ≤ d) (hm2 : d ≤ maxLen) :
    Calls Try.prog 3 #[.string s, .slice A l.length c, .slice B m.length d] w (RetV w (.bool true)) := by
  have hml := le_maxLen
  by_cases h1 : 1000 < s.size
  · go_enter Try.func3, Try.ntmps3
    go_wp2_with fail
    go_ret
    exact ⟨rfl, Below.refl _ _⟩
  by_cases h2 : 1000 < l.length
  · go_enter Try.func3, Try.ntmps3
    go_wp2_with fail
    go_ret
    exact ⟨rfl, Below.refl _ _⟩
  by_cases h3 : 1000 < m.length
  · go_enter Try.func3, Try.ntmps3
    go_wp2_with fail
    go_ret
    exact ⟨rfl, Below.refl _ _⟩
  go_enter Try.func3, Try.ntmps3
  go_wp2_with fail
  refine (text_any _ _ hs).mono ?_
  rintro e w1 ⟨A1, c1, rfl, hown1, hb1⟩
  go_wp2_with fail
  refine (rtext_any _ _ hs).mono ?_
  rintro e w2 ⟨A2, c2, rfl, hown2, hb2⟩
  go_wp2_with fail
  refine (copy_any _ _ _ _ (hr.below (bt hb1 hb2)) (by omega)).mono ?_
  rintro e w3 ⟨A3, c3, rfl, hown3, hb3⟩
  go_wp2_with fail
  refine (copy_any _ _ _ _ (hr2.below (bt (bt hb1 hb2) hb3)) (by omega)).mono ?_
  rintro e w4 ⟨A4, c4, rfl, hown4, hb4⟩
  go_wp2_with fail
  refine (join_any _ 3 [l, m, l] _ (rdl_lit w4 _ [(A3, c3, l), (A4, c4, m), (A3, c3, l)] ?_) (by simp) (by unfold maxLen; omega) (by simp; omega)).mono ?_
  · simp only [List.forall_mem_cons]
    exact ⟨hown3.rd.below hb4, hown4.rd, hown3.rd.below hb4, by simp⟩
  rintro e w5 ⟨A5, c5, rfl, hown5, hb5⟩
  go_wp2_with fail
  have B4 : Below w.heap.size w w4 := bt (bt (bt hb1 hb2) hb3) hb4
  have B45 : Below w4.heap.size w4 w5 := ((Below.refl _ _).alloc (Nat.le_refl _) _).trans (hb5.mono (by simp))
  have B5 : Below w.heap.size w w5 := bt B4 B45
  refine (copy_any _ _ _ _ (hr.below B5) (by omega)).mono ?_
  rintro e w6 ⟨A6, c6, rfl, hown6, hb6⟩
  have hz6 := hb6.size
  go_wp2_with (first
    | (at_builtin; refine wpList_append_bytes _ rfl (.tmp 52) (.tmp 53) rfl w5.heap.size A6 l.length c6 l rfl rfl hown6 B m.length d m rfl rfl (hr2.below (bt B5 hb6)) (by omega) hz6 ?_; intro A7 c7 w7 hown7 hb7 _
       have B7 : Below w5.heap.size w5 w7 := hb6.trans hb7
       have hz7 := B7.size)
    | (at_builtin; refine wpList_append_bytes _ rfl (.tmp 54) (.tmp 55) rfl w5.heap.size A7 (l.length + m.length) c7 (l ++ m) rfl (by simp) hown7 A l.length c l rfl rfl (hr.below (bt B5 B7)) (by simp; omega) hz7 ?_; intro A8 c8 w8 hown8 hb8 _))
  have B8 : Below w5.heap.size w5 w8 := B7.trans hb8
  have BA8 : Below w.heap.size w w8 := bt B5 B8
  refine (same_any _ _ _ _ _ _ _ ((hown1.rd.below hb2).below (bt (bt (bt hb3 hb4) B45) B8)) (hown2.rd.below (bt (bt (bt hb3 hb4) B45) B8)) ?_ ?_).mono ?_
  · have := textL_length s.data.toList; omega
  · have := textL_length s.data.toList; omega
  rw [eqB_self]
  rintro e w9 ⟨rfl, hb9⟩
  go_wp2_with fail
  refine (same_n _ _ _ _ (l ++ (m ++ l)) (l ++ m ++ l) _ _ _ ?_ ((hown8.rd).below hb9) ?_ ?_ ?_ ?_).mono ?_
  · have := hown5.rd
    simp only [List.flatten_cons, List.flatten_nil, List.append_nil] at this
    exact this.below (bt B8 hb9)
  · simp; omega
  · simp; omega
  · simp
  · simp
  rw [List.append_assoc, eqB_self]
  rintro e w10 ⟨rfl, hb10⟩
  go_wp2_with fail
  refine (join_any _ _ [] _ (RdL.nil _ _) (Nat.zero_le _) (Nat.zero_le _) (by simp)).mono ?_
  rintro e w11 ⟨A11, c11, rfl, hown11, hb11⟩
  go_wp2_with fail
  have BX : Below w4.heap.size w4 w11 := bt (bt (bt (bt B45 B8) hb9) hb10) hb11
  have own5 : Own w11 w4.heap.size A5 c5 (l ++ (m ++ l)) := by
    have := ((((hown5.below B8).below hb9).below hb10).below hb11).mono (base' := w4.heap.size) (by simp)
    simpa using this
  have rd3 : Rd w4 A3 l := hown3.rd.below hb4
  have rd4 : Rd w4 A4 m := hown4.rd
  have rda : Rd w4 A l := hr.below B4
  have rdb : Rd w4 B m := hr2.below B4
  clear hown1 hown2 hown3 hown4 hown5 hown6 hown7 hown8 hown11 hb1 hb2 hb3 hb4 hb5 hb6 hb7 hb8 hb9 hb10 hb11 B45 B5 B7 B8 BA8 hz6 hz7 hr hr2
  go_loopw [16] (fun i wr => ∃ (k : Nat) (L : List UInt8), k ≤ l.length + (m.length + l.length) ∧ i = .int .i64 k ∧ L.length = l.length + (m.length + l.length) ∧ Own wr w4.heap.size A5 c5 L ∧ Below w4.heap.size w4 wr) (fun i _ => l.length + (m.length + l.length) - (intOf i).toNat)
  case atStart => exact ⟨0, l ++ (m ++ l), Nat.zero_le _, rfl, by simp, own5, BX⟩
  case round =>
    obtain ⟨k, L, hk, rfl, hL, hown, hb⟩ := hrel
    have HL := Lib.hid hL
    clear hL own5 BX
    by_cases hlt : k < l.length + (m.length + l.length)
    · have hkL : k < L.length := by rw [HL.out]; exact hlt
      rcases hown.form with ⟨_, _, e⟩ | ⟨g, rfl, hg, _, _, _⟩
      · rw [e] at hkL; simp at hkL
      have hcell := hown.cell k hkL
      have hfz := hown.frozen k
      go_wp2_with fail
      go_roundw
      case measure => simp [intOf]; omega
      case rel =>
        rw [byte_succ]
        exact ⟨k + 1, _, by omega, by go_num, by rw [List.length_set, HL.out], hown.set k _, hb.setCell hg _⟩
    · go_wp2_with fail
      refine (join_any _ 1 [l] _ (rdl_lit wr _ [(A3, c3, l)] ?_) (by simp) (by unfold maxLen; omega) (by simp; omega)).mono ?_
      · simp only [List.forall_mem_cons]
        exact ⟨rd3.below hb, by simp⟩
      rintro e w12 ⟨A12, c12, rfl, hown12, hb12⟩
      have hz := hb.size
      have BX : Below w4.heap.size w4 w12 := (hb.alloc hz _).trans (hb12.mono (by simp; omega))
      have own12 : Own w12 w4.heap.size A12 c12 l := by
        have := hown12.mono (base' := w4.heap.size) (by simp; omega)
        simpa using this
      clear hown12 hb12 hown HL hb hz
      go_wp2_with fail
      go_loopw [18] (fun i wr => ∃ (k : Nat) (L : List UInt8), k ≤ l.length ∧ i = .int .i64 k ∧ L.length = l.length ∧ Own wr w4.heap.size A12 c12 L ∧ Below w4.heap.size w4 wr) (fun i _ => l.length - (intOf i).toNat)
      case atStart => exact ⟨0, l, Nat.zero_le _, rfl, rfl, own12, BX⟩
      case round =>
        obtain ⟨k, L, hk, rfl, hL, hown, hb⟩ := hrel
        have HL := Lib.hid hL
        clear hL own12 BX
        by_cases hlt : k < l.length
        · have hkL : k < L.length := by rw [HL.out]; exact hlt
          rcases hown.form with ⟨_, _, e⟩ | ⟨g, rfl, hg, _, _, _⟩
          · rw [e] at hkL; simp at hkL
          have hcell := hown.cell k hkL
          have hfz := hown.frozen k
          go_wp2_with fail
          go_roundw
          case measure => simp [intOf]; omega
          case rel =>
            rw [byte_succ]
            exact ⟨k + 1, _, by omega, by go_num, by rw [List.length_set, HL.out], hown.set k _, hb.setCell hg _⟩
        · go_wp2_with fail
          rename_i wr
          refine (same_any _ _ _ _ _ _ _ (rd3.below hb) (rda.below hb) (by omega) (by omega)).mono ?_
          rw [eqB_self]
          rintro e w13 ⟨rfl, hb13⟩
          go_wp2_with fail
          refine (same_any _ _ _ _ _ _ _ (rd4.below (bt hb hb13)) (rdb.below (bt hb hb13)) (by omega) (by omega)).mono ?_
          rw [eqB_self]
          rintro e w14 ⟨rfl, hb14⟩
          go_wp2_with fail
          go_ret
          exact ⟨rfl, bt B4 (bt (bt hb hb13) hb14)⟩
end Go.Proofs.Ytgdgggklagmpoaa
