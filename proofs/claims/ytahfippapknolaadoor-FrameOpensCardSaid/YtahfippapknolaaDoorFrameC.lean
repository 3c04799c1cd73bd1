/-
  THE WALK OF frame.Open.
-/
import Derived.Test.YtahfippapknolaaDoorFramePlainB
import Derived.Test.YtahfippapknolaaDoorFrameA
import Derived.Test.YtahfippapknolaaDoorTagF
import Derived.Test.YtahfippapknolaaDoorClone
import Derived.Deep.RegionHeld3
namespace Go.Proofs.YtahfippapknolaaDoor
open Go.RowKit
set_option linter.unusedVariables false

/-- bytes of the caller's own: they may be read, and written -/
def Mine (w : World) (base : Nat) (A : Option Addr) (l : List UInt8) : Prop := Rd w A l ∧ (l ≠ [] → ∃ g, A = some ⟨g, 0, none⟩ ∧ base ≤ g ∧ ∀ i, w.frozen? ⟨g, i, none⟩ = false)
theorem Own.mine {w : World} {base c : Nat} {A : Option Addr} {l : List UInt8} (h : Own w base A c l) : Mine w base A l := by
  refine ⟨h.rd, fun hn => ?_⟩
  rcases h.form with ⟨_, _, h0⟩ | ⟨g, rfl, hb, _, _, _⟩
  · exact absurd h0 hn
  · exact ⟨g, rfl, hb, fun i => h.frozen i⟩
theorem Mine.nil (w : World) (base : Nat) (A : Option Addr) : Mine w base A [] := ⟨Rd.nil _ _, fun h => absurd rfl h⟩
/-- a state, a tag, bytes -/
def RetF (w : World) (s : Int) (v : Value) (l : List UInt8) (e : Ending) (w' : World) : Prop :=
  ∃ A c, e = .returned (.tuple #[.int .u8 s, v, .slice A l.length c]) ∧ Mine w' w.heap.size A l ∧ l.length ≤ c ∧ c ≤ maxLen ∧ Below w.heap.size w w'
theorem Own.put {w : World} {base c : Nat} {A : Option Addr} {l : List UInt8} (h : Own w base A c l) {p : Addr} (hp : p.block < base) (u : Value) : Own (w.setCell p u) base A c l := by
  refine ⟨h.1, ?_⟩
  rcases h.2 with h0 | ⟨g, cap, cur, hv, hb, hh, r⟩
  · exact .inl h0
  · exact .inr ⟨g, cap, cur, hv, hb, (Below.heap_setCell _ _ _ _ (by omega)).trans hh, r⟩
theorem tparse_n (A : Option Addr) (c : Nat) (l : List UInt8) (n : Nat) (w : World) (hr : Rd w A l) (hc : l.length ≤ c) (hm : c ≤ maxLen) (hn : n = l.length) :
    Calls Tryd.prog 22 #[.slice A n c] w (RetV w (.tuple #[tagW l, .int .i64 (tagP l)])) := by
  subst hn
  exact parse_any A c l w hr hc hm

set_option maxHeartbeats 2000000 in
theorem open_len (A : Option Addr) (c : Nat) (l : List UInt8) (w : World) (hm : l.length ≤ maxLen) (h1 : l.length ≠ 64) (h2 : l.length ≠ 128) : Calls Tryd.prog 10 #[.slice A l.length c] w (RetF w 2 (.agg #[.int .i64 0, .int .i64 0, .int .i64 0, .int .i64 0, .int .i64 0]) []) := by
  have hm' := hm
  unfold maxLen at hm'
  by_cases h0 : l.length % 64 = 0
  · have g0 : ((l.length : Int) % 64 != 0) = false := by rw [bne_eq_false_iff_eq]; omega
    have HR : Hid (roomI ((l.length : Int) / 64) = 0) := Lib.hid (by unfold roomI; rw [if_neg (by omega), if_neg (by omega)])
    clear h0 h1 h2
    go_enter Tryd.func10, Tryd.ntmps10
    go_wp2_with fail
    refine (room_any _ _).mono ?_
    rw [HR.out]
    rintro e w1 ⟨rfl, rfl⟩
    go_wp2_with fail
    refine bodyPost_ret (v := .tuple #[.int .u8 2, .agg #[.int .i64 0, .int .i64 0, .int .i64 0, .int .i64 0, .int .i64 0], .slice none 0 0]) (by simp [results, Tryd.results10, go_sem]) rfl ⟨none, 0, rfl, Mine.nil _ _ _, Nat.le_refl _, Nat.zero_le _, bal0 _ _⟩
  · have g0 : ((l.length : Int) % 64 != 0) = true := by rw [bne_iff_ne]; omega
    clear h0 h1 h2
    go_enter Tryd.func10, Tryd.ntmps10
    go_wp2_with fail
    refine bodyPost_ret (v := .tuple #[.int .u8 2, .agg #[.int .i64 0, .int .i64 0, .int .i64 0, .int .i64 0, .int .i64 0], .slice none 0 0]) (by simp [results, Tryd.results10, go_sem]) rfl ⟨none, 0, rfl, Mine.nil _ _ _, Nat.le_refl _, Nat.zero_le _, bal0 _ _⟩
set_option maxHeartbeats 2000000 in
theorem open_blank_1 (A : Option Addr) (c : Nat) (l : List UInt8) (w : World) (hr : Rd w A l) (hc : l.length ≤ c) (hm : c ≤ maxLen) (hl : l.length = 64) (hz : zeroB l = true) : Calls Tryd.prog 10 #[.slice A l.length c] w (RetF w 0 (.agg #[.int .i64 0, .int .i64 0, .int .i64 0, .int .i64 0, .int .i64 0]) []) := by
  have HZ := Lib.hid hz
  have HL : Hid (64 = l.length) := Lib.hid hl.symm
  rw [hl]
  clear hz hl
  go_enter Tryd.func10, Tryd.ntmps10
  go_wp2_with fail
  refine (room_any _ _).mono ?_
  rw [show roomI 1 = 43 from rfl]
  rintro e w1 ⟨rfl, rfl⟩
  go_wp2_with fail
  refine (noughts_any A c l 64 _ (hr.alloc _) HL.out hc hm).mono ?_
  rw [HZ.out]
  rintro e w1 ⟨rfl, hb1⟩
  have B1 := (Blk.new w 25 #[.int .i64 0, .int .i64 0, .int .i64 0, .int .i64 0, .int .i64 0]).bel hb1
  have hbb := bac hb1
  have f0 := B1.frozen
  have c0 := B1.c 0 (.int .i64 0) rfl
  have c1 := B1.c 1 (.int .i64 0) rfl
  have c2 := B1.c 2 (.int .i64 0) rfl
  have c3 := B1.c 3 (.int .i64 0) rfl
  have c4 := B1.c 4 (.int .i64 0) rfl
  go_wp2_with fail
  refine bodyPost_ret (v := .tuple #[.int .u8 0, .agg #[.int .i64 0, .int .i64 0, .int .i64 0, .int .i64 0, .int .i64 0], .slice none 0 0]) (by simp [results, Tryd.results10, go_sem, c0, c1, c2, c3, c4]) rfl ⟨none, 0, rfl, Mine.nil _ _ _, Nat.le_refl _, Nat.zero_le _, ?_⟩
  exact (((((hbb.setCell (Nat.le_refl _) _).setCell (Nat.le_refl _) _).setCell (Nat.le_refl _) _).setCell (Nat.le_refl _) _).setCell (Nat.le_refl _) _)

set_option maxHeartbeats 4000000 in
theorem open_tag_1 (A : Option Addr) (c : Nat) (l : List UInt8) (w : World) (hr : Rd w A l) (hc : l.length ≤ c) (hm : c ≤ maxLen) (hl : l.length = 64) (hz : zeroB l = false) (ht : tagB (frT l) = false) : Calls Tryd.prog 10 #[.slice A l.length c] w (RetF w 2 (.agg #[.int .i64 0, .int .i64 0, .int .i64 0, .int .i64 0, .int .i64 0]) []) := by
  have HZ := Lib.hid hz
  have hcm := hm
  unfold maxLen at hcm
  obtain ⟨b, o, rfl, hcl⟩ := hr.at_ (k := 0) (by omega)
  clear hcl
  obtain ⟨x, HX⟩ : ∃ x, Hid (x = frN l) := ⟨_, Lib.hid rfl⟩
  have HE : Hid (getE l 0 2 = 0 ∧ getP l 0 2 = 2 ∧ getN l 0 2 = x) := Lib.hid (by
    have he : getE l 0 2 = 0 := by unfold getE; rw [show isWidth 2 = true from rfl, if_neg (by simp), if_neg (by omega), if_neg (by omega)]
    refine ⟨he, by unfold getP; rw [he, if_pos rfl]; rfl, ?_⟩
    unfold getN
    rw [he, if_pos rfl, HX.out]
    rfl)
  have hx : x < 65536 := by rw [HX.out]; exact leN_take_lt l 0 2
  obtain ⟨u, HU⟩ : ∃ u, Hid (u = leN (l.drop 60)) := ⟨_, Lib.hid rfl⟩
  have HE4 : Hid (getE l 60 4 = 0 ∧ getP l 60 4 = 64 ∧ getN l 60 4 = u) := Lib.hid (by
    have he : getE l 60 4 = 0 := by unfold getE; rw [show isWidth 4 = true from rfl, if_neg (by simp), if_neg (by omega), if_neg (by omega)]
    refine ⟨he, by unfold getP; rw [he, if_pos rfl]; rfl, ?_⟩
    unfold getN
    rw [he, if_pos rfl, HU.out, List.take_of_length_le]
    · rfl
    · simp; omega)
  have hrT : Rd w (some ⟨b, o + 2, none⟩) (frT l) := Rd.cut hr b o 2 15 rfl (by omega)
  have HTl : Hid (15 = (frT l).length) := Lib.hid (by simp [frT]; omega)
  have hc64 : 64 ≤ c := by omega
  have n2 : ¬ c = 2 := by omega
  have HT : Hid (tagW (frT l) = .agg #[.int .i64 0, .int .i64 0, .int .i64 0, .int .i64 0, .int .i64 0] ∧ tagP (frT l) = 30) := Lib.hid (tagW_none ht)
  clear ht
  have HL : Hid (64 = l.length) := Lib.hid hl.symm
  rw [hl]
  clear hz hl
  go_enter Tryd.func10, Tryd.ntmps10
  go_wp2_with fail
  refine (room_any _ _).mono ?_
  rw [show roomI 1 = 43 from rfl]
  rintro e w1 ⟨rfl, rfl⟩
  go_wp2_with fail
  refine (noughts_any (some ⟨b, o, none⟩) c l 64 _ (hr.alloc _) HL.out hc hm).mono ?_
  rw [HZ.out]
  rintro e w1 ⟨rfl, hb1⟩
  have hbb1 := bac hb1
  have B1 := (Blk.new w 25 #[.int .i64 0, .int .i64 0, .int .i64 0, .int .i64 0, .int .i64 0]).bel hb1
  clear hb1
  go_wp2_with fail
  refine (get_n (some ⟨b, o, none⟩) c l 64 0 2 _ (hr.below hbb1) hc hm HL.out).mono ?_
  rw [HE.out.1, HE.out.2.1, HE.out.2.2]
  rintro e w2 ⟨rfl, hb2⟩
  have hbb2 := bt hbb1 hb2
  have B2 := B1.bel hb2
  clear hb2
  go_wp2_with fail
  refine (tparse_n (some ⟨b, o + 2, none⟩) (c - 2) (frT l) 15 _ (hrT.below hbb2) (by rw [← HTl.out]; omega) (by omega) HTl.out).mono ?_
  rw [HT.out.1, HT.out.2]
  rintro e w3 ⟨rfl, hb3⟩
  have hbb3 := bal (bt hbb2 hb3) (.cells #[.int .i64 0, .int .i64 0, .int .i64 0, .int .i64 0, .int .i64 0] 25)
  have B3 := (B2.bel hb3).alloc (.cells #[.int .i64 0, .int .i64 0, .int .i64 0, .int .i64 0, .int .i64 0] 25)
  have C3 := Blk.new w3 25 #[.int .i64 0, .int .i64 0, .int .i64 0, .int .i64 0, .int .i64 0]
  clear hb3
  go_wp2_with fail
  refine (get_n (some ⟨b, o, none⟩) c l 64 60 4 _ (hr.below hbb3) hc hm HL.out).mono ?_
  rw [HE4.out.1, HE4.out.2.1, HE4.out.2.2]
  rintro e w4 ⟨rfl, hb4⟩
  have hbb4 := bt hbb3 hb4
  have B4 := B3.bel hb4
  have C4 := C3.bel hb4
  clear hb4
  have f0 := B4.frozen
  have c0 := B4.c 0 (.int .i64 0) rfl
  have c1 := B4.c 1 (.int .i64 0) rfl
  have c2 := B4.c 2 (.int .i64 0) rfl
  have c3 := B4.c 3 (.int .i64 0) rfl
  have c4 := B4.c 4 (.int .i64 0) rfl
  go_wp2_with fail
  refine bodyPost_ret (v := .tuple #[.int .u8 2, .agg #[.int .i64 0, .int .i64 0, .int .i64 0, .int .i64 0, .int .i64 0], .slice none 0 0]) (by simp [results, Tryd.results10, go_sem, c0, c1, c2, c3, c4]) rfl ⟨none, 0, rfl, Mine.nil _ _ _, Nat.le_refl _, Nat.zero_le _, ?_⟩
  exact (((((hbb4.setCell (Nat.le_refl _) _).setCell (Nat.le_refl _) _).setCell (Nat.le_refl _) _).setCell (Nat.le_refl _) _).setCell (Nat.le_refl _) _)

set_option maxHeartbeats 4000000 in
theorem open_room_1 (A : Option Addr) (c : Nat) (l : List UInt8) (w : World) (hr : Rd w A l) (hc : l.length ≤ c) (hm : c ≤ maxLen) (hl : l.length = 64) (hz : zeroB l = false) (ht : tagB (frT l) = true) (hn : 43 < frN l) : Calls Tryd.prog 10 #[.slice A l.length c] w (RetF w 2 (.agg #[.int .i64 0, .int .i64 0, .int .i64 0, .int .i64 0, .int .i64 0]) []) := by
  have HZ := Lib.hid hz
  have hcm := hm
  unfold maxLen at hcm
  obtain ⟨b, o, rfl, hcl⟩ := hr.at_ (k := 0) (by omega)
  clear hcl
  obtain ⟨x, HX⟩ : ∃ x, Hid (x = frN l) := ⟨_, Lib.hid rfl⟩
  have HE : Hid (getE l 0 2 = 0 ∧ getP l 0 2 = 2 ∧ getN l 0 2 = x) := Lib.hid (by
    have he : getE l 0 2 = 0 := by unfold getE; rw [show isWidth 2 = true from rfl, if_neg (by simp), if_neg (by omega), if_neg (by omega)]
    refine ⟨he, by unfold getP; rw [he, if_pos rfl]; rfl, ?_⟩
    unfold getN
    rw [he, if_pos rfl, HX.out]
    rfl)
  have hx : x < 65536 := by rw [HX.out]; exact leN_take_lt l 0 2
  obtain ⟨u, HU⟩ : ∃ u, Hid (u = leN (l.drop 60)) := ⟨_, Lib.hid rfl⟩
  have HE4 : Hid (getE l 60 4 = 0 ∧ getP l 60 4 = 64 ∧ getN l 60 4 = u) := Lib.hid (by
    have he : getE l 60 4 = 0 := by unfold getE; rw [show isWidth 4 = true from rfl, if_neg (by simp), if_neg (by omega), if_neg (by omega)]
    refine ⟨he, by unfold getP; rw [he, if_pos rfl]; rfl, ?_⟩
    unfold getN
    rw [he, if_pos rfl, HU.out, List.take_of_length_le]
    · rfl
    · simp; omega)
  have hrT : Rd w (some ⟨b, o + 2, none⟩) (frT l) := Rd.cut hr b o 2 15 rfl (by omega)
  have HTl : Hid (15 = (frT l).length) := Lib.hid (by simp [frT]; omega)
  have hc64 : 64 ≤ c := by omega
  have n2 : ¬ c = 2 := by omega
  obtain ⟨f0, F0⟩ : ∃ f, Hid (f = getN (frT l) 0 1) := ⟨_, Lib.hid rfl⟩
  obtain ⟨f1, F1⟩ : ∃ f, Hid (f = getN (frT l) 1 1) := ⟨_, Lib.hid rfl⟩
  obtain ⟨f2, F2⟩ : ∃ f, Hid (f = getN (frT l) 2 1) := ⟨_, Lib.hid rfl⟩
  obtain ⟨f3, F3⟩ : ∃ f, Hid (f = getN (frT l) 3 6) := ⟨_, Lib.hid rfl⟩
  obtain ⟨f4, F4⟩ : ∃ f, Hid (f = getN (frT l) 9 6) := ⟨_, Lib.hid rfl⟩
  have HT : Hid (tagW (frT l) = .agg #[.int .i64 f0, .int .i64 f1, .int .i64 f2, .int .i64 f3, .int .i64 f4] ∧ tagP (frT l) = 0) := Lib.hid (by
    have := tagW_some ht
    rw [← F0.out, ← F1.out, ← F2.out, ← F3.out, ← F4.out] at this
    exact this)
  have hxr : (43 : Int) < x := by rw [HX.out]; omega
  clear ht hn
  have HL : Hid (64 = l.length) := Lib.hid hl.symm
  rw [hl]
  clear hz hl
  go_enter Tryd.func10, Tryd.ntmps10
  go_wp2_with fail
  refine (room_any _ _).mono ?_
  rw [show roomI 1 = 43 from rfl]
  rintro e w1 ⟨rfl, rfl⟩
  go_wp2_with fail
  refine (noughts_any (some ⟨b, o, none⟩) c l 64 _ (hr.alloc _) HL.out hc hm).mono ?_
  rw [HZ.out]
  rintro e w1 ⟨rfl, hb1⟩
  have hbb1 := bac hb1
  have B1 := (Blk.new w 25 #[.int .i64 0, .int .i64 0, .int .i64 0, .int .i64 0, .int .i64 0]).bel hb1
  clear hb1
  go_wp2_with fail
  refine (get_n (some ⟨b, o, none⟩) c l 64 0 2 _ (hr.below hbb1) hc hm HL.out).mono ?_
  rw [HE.out.1, HE.out.2.1, HE.out.2.2]
  rintro e w2 ⟨rfl, hb2⟩
  have hbb2 := bt hbb1 hb2
  have B2 := B1.bel hb2
  clear hb2
  go_wp2_with fail
  refine (tparse_n (some ⟨b, o + 2, none⟩) (c - 2) (frT l) 15 _ (hrT.below hbb2) (by rw [← HTl.out]; omega) (by omega) HTl.out).mono ?_
  rw [HT.out.1, HT.out.2]
  rintro e w3 ⟨rfl, hb3⟩
  have hbb3 := bal (bt hbb2 hb3) (.cells #[.int .i64 f0, .int .i64 f1, .int .i64 f2, .int .i64 f3, .int .i64 f4] 25)
  have B3 := (B2.bel hb3).alloc (.cells #[.int .i64 f0, .int .i64 f1, .int .i64 f2, .int .i64 f3, .int .i64 f4] 25)
  have C3 := Blk.new w3 25 #[.int .i64 f0, .int .i64 f1, .int .i64 f2, .int .i64 f3, .int .i64 f4]
  clear hb3
  go_wp2_with fail
  refine (get_n (some ⟨b, o, none⟩) c l 64 60 4 _ (hr.below hbb3) hc hm HL.out).mono ?_
  rw [HE4.out.1, HE4.out.2.1, HE4.out.2.2]
  rintro e w4 ⟨rfl, hb4⟩
  have hbb4 := bt hbb3 hb4
  have B4 := B3.bel hb4
  have C4 := C3.bel hb4
  clear hb4
  have f0 := B4.frozen
  have c0 := B4.c 0 (.int .i64 0) rfl
  have c1 := B4.c 1 (.int .i64 0) rfl
  have c2 := B4.c 2 (.int .i64 0) rfl
  have c3 := B4.c 3 (.int .i64 0) rfl
  have c4 := B4.c 4 (.int .i64 0) rfl
  go_wp2_with fail
  refine (room_any _ _).mono ?_
  rw [show roomI 1 = 43 from rfl]
  rintro e w5 ⟨rfl, rfl⟩
  go_wp2_with fail
  refine bodyPost_ret (v := .tuple #[.int .u8 2, .agg #[.int .i64 0, .int .i64 0, .int .i64 0, .int .i64 0, .int .i64 0], .slice none 0 0]) (by simp [results, Tryd.results10, go_sem, c0, c1, c2, c3, c4]) rfl ⟨none, 0, rfl, Mine.nil _ _ _, Nat.le_refl _, Nat.zero_le _, ?_⟩
  exact (((((hbb4.setCell (Nat.le_refl _) _).setCell (Nat.le_refl _) _).setCell (Nat.le_refl _) _).setCell (Nat.le_refl _) _).setCell (Nat.le_refl _) _)

set_option maxHeartbeats 4000000 in
theorem open_sum_1 (A : Option Addr) (c : Nat) (l : List UInt8) (w : World) (hr : Rd w A l) (hc : l.length ≤ c) (hm : c ≤ maxLen) (hl : l.length = 64) (hz : zeroB l = false) (ht : tagB (frT l) = true) (hn : frN l ≤ 43) (hs : leN (l.drop 60) ≠ sum (l.take 60)) : Calls Tryd.prog 10 #[.slice A l.length c] w (RetF w 2 (.agg #[.int .i64 0, .int .i64 0, .int .i64 0, .int .i64 0, .int .i64 0]) []) := by
  have HZ := Lib.hid hz
  have hcm := hm
  unfold maxLen at hcm
  obtain ⟨b, o, rfl, hcl⟩ := hr.at_ (k := 0) (by omega)
  clear hcl
  obtain ⟨x, HX⟩ : ∃ x, Hid (x = frN l) := ⟨_, Lib.hid rfl⟩
  have HE : Hid (getE l 0 2 = 0 ∧ getP l 0 2 = 2 ∧ getN l 0 2 = x) := Lib.hid (by
    have he : getE l 0 2 = 0 := by unfold getE; rw [show isWidth 2 = true from rfl, if_neg (by simp), if_neg (by omega), if_neg (by omega)]
    refine ⟨he, by unfold getP; rw [he, if_pos rfl]; rfl, ?_⟩
    unfold getN
    rw [he, if_pos rfl, HX.out]
    rfl)
  have hx : x < 65536 := by rw [HX.out]; exact leN_take_lt l 0 2
  obtain ⟨u, HU⟩ : ∃ u, Hid (u = leN (l.drop 60)) := ⟨_, Lib.hid rfl⟩
  have HE4 : Hid (getE l 60 4 = 0 ∧ getP l 60 4 = 64 ∧ getN l 60 4 = u) := Lib.hid (by
    have he : getE l 60 4 = 0 := by unfold getE; rw [show isWidth 4 = true from rfl, if_neg (by simp), if_neg (by omega), if_neg (by omega)]
    refine ⟨he, by unfold getP; rw [he, if_pos rfl]; rfl, ?_⟩
    unfold getN
    rw [he, if_pos rfl, HU.out, List.take_of_length_le]
    · rfl
    · simp; omega)
  have hrT : Rd w (some ⟨b, o + 2, none⟩) (frT l) := Rd.cut hr b o 2 15 rfl (by omega)
  have HTl : Hid (15 = (frT l).length) := Lib.hid (by simp [frT]; omega)
  have hc64 : 64 ≤ c := by omega
  have n2 : ¬ c = 2 := by omega
  obtain ⟨f0, F0⟩ : ∃ f, Hid (f = getN (frT l) 0 1) := ⟨_, Lib.hid rfl⟩
  obtain ⟨f1, F1⟩ : ∃ f, Hid (f = getN (frT l) 1 1) := ⟨_, Lib.hid rfl⟩
  obtain ⟨f2, F2⟩ : ∃ f, Hid (f = getN (frT l) 2 1) := ⟨_, Lib.hid rfl⟩
  obtain ⟨f3, F3⟩ : ∃ f, Hid (f = getN (frT l) 3 6) := ⟨_, Lib.hid rfl⟩
  obtain ⟨f4, F4⟩ : ∃ f, Hid (f = getN (frT l) 9 6) := ⟨_, Lib.hid rfl⟩
  have HT : Hid (tagW (frT l) = .agg #[.int .i64 f0, .int .i64 f1, .int .i64 f2, .int .i64 f3, .int .i64 f4] ∧ tagP (frT l) = 0) := Lib.hid (by
    have := tagW_some ht
    rw [← F0.out, ← F1.out, ← F2.out, ← F3.out, ← F4.out] at this
    exact this)
  have hxr : decide ((43 : Int) < x) = false := decide_eq_false (by rw [HX.out]; omega)
  have hxr2 : x ≤ 43 := by rw [HX.out]; exact hn
  obtain ⟨v, HV⟩ : ∃ v, Hid (v = sum (l.take 60)) := ⟨_, Lib.hid rfl⟩
  have hv : v < 4294967296 := by rw [HV.out]; exact sum_lt _
  have HSl : Hid (60 = (l.take 60).length) := Lib.hid (by simp; omega)
  have hne : ((u : Int) != (v : Int)) = true := by rw [bne_iff_ne, HU.out, HV.out]; omega
  clear ht hn hs
  have HL : Hid (64 = l.length) := Lib.hid hl.symm
  rw [hl]
  clear hz hl
  go_enter Tryd.func10, Tryd.ntmps10
  go_wp2_with fail
  refine (room_any _ _).mono ?_
  rw [show roomI 1 = 43 from rfl]
  rintro e w1 ⟨rfl, rfl⟩
  go_wp2_with fail
  refine (noughts_any (some ⟨b, o, none⟩) c l 64 _ (hr.alloc _) HL.out hc hm).mono ?_
  rw [HZ.out]
  rintro e w1 ⟨rfl, hb1⟩
  have hbb1 := bac hb1
  have B1 := (Blk.new w 25 #[.int .i64 0, .int .i64 0, .int .i64 0, .int .i64 0, .int .i64 0]).bel hb1
  clear hb1
  go_wp2_with fail
  refine (get_n (some ⟨b, o, none⟩) c l 64 0 2 _ (hr.below hbb1) hc hm HL.out).mono ?_
  rw [HE.out.1, HE.out.2.1, HE.out.2.2]
  rintro e w2 ⟨rfl, hb2⟩
  have hbb2 := bt hbb1 hb2
  have B2 := B1.bel hb2
  clear hb2
  go_wp2_with fail
  refine (tparse_n (some ⟨b, o + 2, none⟩) (c - 2) (frT l) 15 _ (hrT.below hbb2) (by rw [← HTl.out]; omega) (by omega) HTl.out).mono ?_
  rw [HT.out.1, HT.out.2]
  rintro e w3 ⟨rfl, hb3⟩
  have hbb3 := bal (bt hbb2 hb3) (.cells #[.int .i64 f0, .int .i64 f1, .int .i64 f2, .int .i64 f3, .int .i64 f4] 25)
  have B3 := (B2.bel hb3).alloc (.cells #[.int .i64 f0, .int .i64 f1, .int .i64 f2, .int .i64 f3, .int .i64 f4] 25)
  have C3 := Blk.new w3 25 #[.int .i64 f0, .int .i64 f1, .int .i64 f2, .int .i64 f3, .int .i64 f4]
  clear hb3
  go_wp2_with fail
  refine (get_n (some ⟨b, o, none⟩) c l 64 60 4 _ (hr.below hbb3) hc hm HL.out).mono ?_
  rw [HE4.out.1, HE4.out.2.1, HE4.out.2.2]
  rintro e w4 ⟨rfl, hb4⟩
  have hbb4 := bt hbb3 hb4
  have B4 := B3.bel hb4
  have C4 := C3.bel hb4
  clear hb4
  go_wp2_with fail
  refine (room_any _ _).mono ?_
  rw [show roomI 1 = 43 from rfl]
  rintro e w5 ⟨rfl, rfl⟩
  go_wp2_with fail
  refine (sum_any (some ⟨b, o, none⟩) c (l.take 60) 60 _ ((hr.below hbb4).take _) (by rw [← HSl.out]; decide) HSl.out).mono ?_
  rw [← HV.out]
  rintro e w5 ⟨rfl, hb5⟩
  have hbb5 := bt hbb4 hb5
  have B5 := B4.bel hb5
  have C5 := C4.bel hb5
  clear hb5
  have f0 := B5.frozen
  have c0 := B5.c 0 (.int .i64 0) rfl
  have c1 := B5.c 1 (.int .i64 0) rfl
  have c2 := B5.c 2 (.int .i64 0) rfl
  have c3 := B5.c 3 (.int .i64 0) rfl
  have c4 := B5.c 4 (.int .i64 0) rfl
  go_wp2_with fail
  refine bodyPost_ret (v := .tuple #[.int .u8 2, .agg #[.int .i64 0, .int .i64 0, .int .i64 0, .int .i64 0, .int .i64 0], .slice none 0 0]) (by simp [results, Tryd.results10, go_sem, c0, c1, c2, c3, c4]) rfl ⟨none, 0, rfl, Mine.nil _ _ _, Nat.le_refl _, Nat.zero_le _, ?_⟩
  exact (((((hbb5.setCell (Nat.le_refl _) _).setCell (Nat.le_refl _) _).setCell (Nat.le_refl _) _).setCell (Nat.le_refl _) _).setCell (Nat.le_refl _) _)

set_option maxHeartbeats 4000000 in
theorem open_mid_1 (A : Option Addr) (c : Nat) (l : List UInt8) (w : World) (hr : Rd w A l) (hc : l.length ≤ c) (hm : c ≤ maxLen) (hl : l.length = 64) (hz : zeroB l = false) (ht : tagB (frT l) = true) (hn : frN l ≤ 43) (hs : leN (l.drop 60) = sum (l.take 60)) (hz2 : zeroB (frMid l) = false) : Calls Tryd.prog 10 #[.slice A l.length c] w (RetF w 2 (.agg #[.int .i64 0, .int .i64 0, .int .i64 0, .int .i64 0, .int .i64 0]) []) := by
  have HZ := Lib.hid hz
  have hcm := hm
  unfold maxLen at hcm
  obtain ⟨b, o, rfl, hcl⟩ := hr.at_ (k := 0) (by omega)
  clear hcl
  obtain ⟨x, HX⟩ : ∃ x, Hid (x = frN l) := ⟨_, Lib.hid rfl⟩
  have HE : Hid (getE l 0 2 = 0 ∧ getP l 0 2 = 2 ∧ getN l 0 2 = x) := Lib.hid (by
    have he : getE l 0 2 = 0 := by unfold getE; rw [show isWidth 2 = true from rfl, if_neg (by simp), if_neg (by omega), if_neg (by omega)]
    refine ⟨he, by unfold getP; rw [he, if_pos rfl]; rfl, ?_⟩
    unfold getN
    rw [he, if_pos rfl, HX.out]
    rfl)
  have hx : x < 65536 := by rw [HX.out]; exact leN_take_lt l 0 2
  obtain ⟨u, HU⟩ : ∃ u, Hid (u = leN (l.drop 60)) := ⟨_, Lib.hid rfl⟩
  have HE4 : Hid (getE l 60 4 = 0 ∧ getP l 60 4 = 64 ∧ getN l 60 4 = u) := Lib.hid (by
    have he : getE l 60 4 = 0 := by unfold getE; rw [show isWidth 4 = true from rfl, if_neg (by simp), if_neg (by omega), if_neg (by omega)]
    refine ⟨he, by unfold getP; rw [he, if_pos rfl]; rfl, ?_⟩
    unfold getN
    rw [he, if_pos rfl, HU.out, List.take_of_length_le]
    · rfl
    · simp; omega)
  have hrT : Rd w (some ⟨b, o + 2, none⟩) (frT l) := Rd.cut hr b o 2 15 rfl (by omega)
  have HTl : Hid (15 = (frT l).length) := Lib.hid (by simp [frT]; omega)
  have hc64 : 64 ≤ c := by omega
  have n2 : ¬ c = 2 := by omega
  obtain ⟨f0, F0⟩ : ∃ f, Hid (f = getN (frT l) 0 1) := ⟨_, Lib.hid rfl⟩
  obtain ⟨f1, F1⟩ : ∃ f, Hid (f = getN (frT l) 1 1) := ⟨_, Lib.hid rfl⟩
  obtain ⟨f2, F2⟩ : ∃ f, Hid (f = getN (frT l) 2 1) := ⟨_, Lib.hid rfl⟩
  obtain ⟨f3, F3⟩ : ∃ f, Hid (f = getN (frT l) 3 6) := ⟨_, Lib.hid rfl⟩
  obtain ⟨f4, F4⟩ : ∃ f, Hid (f = getN (frT l) 9 6) := ⟨_, Lib.hid rfl⟩
  have HT : Hid (tagW (frT l) = .agg #[.int .i64 f0, .int .i64 f1, .int .i64 f2, .int .i64 f3, .int .i64 f4] ∧ tagP (frT l) = 0) := Lib.hid (by
    have := tagW_some ht
    rw [← F0.out, ← F1.out, ← F2.out, ← F3.out, ← F4.out] at this
    exact this)
  have hxr : decide ((43 : Int) < x) = false := decide_eq_false (by rw [HX.out]; omega)
  have hxr2 : x ≤ 43 := by rw [HX.out]; exact hn
  obtain ⟨v, HV⟩ : ∃ v, Hid (v = sum (l.take 60)) := ⟨_, Lib.hid rfl⟩
  have hv : v < 4294967296 := by rw [HV.out]; exact sum_lt _
  have HSl : Hid (60 = (l.take 60).length) := Lib.hid (by simp; omega)
  have hne : ((u : Int) != (v : Int)) = false := by rw [bne_eq_false_iff_eq, HU.out, HV.out, hs]
  have hmin : min (x : Int) 43 = x := by omega
  have n17 : ¬ c = 17 + x := by omega
  have hrM : Rd w (some ⟨b, o + (17 + x), none⟩) (frMid l) := by rw [HX.out]; exact Rd.cut hr b o (17 + frN l) (l.length - 4 - (17 + frN l)) rfl (by omega)
  have HMl : Hid (60 - (17 + x) = (frMid l).length) := Lib.hid (by simp [frMid, ← HX.out]; omega)
  have HMZ := Lib.hid hz2
  clear ht hn hs hz2
  have HL : Hid (64 = l.length) := Lib.hid hl.symm
  rw [hl]
  clear hz hl
  go_enter Tryd.func10, Tryd.ntmps10
  go_wp2_with fail
  refine (room_any _ _).mono ?_
  rw [show roomI 1 = 43 from rfl]
  rintro e w1 ⟨rfl, rfl⟩
  go_wp2_with fail
  refine (noughts_any (some ⟨b, o, none⟩) c l 64 _ (hr.alloc _) HL.out hc hm).mono ?_
  rw [HZ.out]
  rintro e w1 ⟨rfl, hb1⟩
  have hbb1 := bac hb1
  have B1 := (Blk.new w 25 #[.int .i64 0, .int .i64 0, .int .i64 0, .int .i64 0, .int .i64 0]).bel hb1
  clear hb1
  go_wp2_with fail
  refine (get_n (some ⟨b, o, none⟩) c l 64 0 2 _ (hr.below hbb1) hc hm HL.out).mono ?_
  rw [HE.out.1, HE.out.2.1, HE.out.2.2]
  rintro e w2 ⟨rfl, hb2⟩
  have hbb2 := bt hbb1 hb2
  have B2 := B1.bel hb2
  clear hb2
  go_wp2_with fail
  refine (tparse_n (some ⟨b, o + 2, none⟩) (c - 2) (frT l) 15 _ (hrT.below hbb2) (by rw [← HTl.out]; omega) (by omega) HTl.out).mono ?_
  rw [HT.out.1, HT.out.2]
  rintro e w3 ⟨rfl, hb3⟩
  have hbb3 := bal (bt hbb2 hb3) (.cells #[.int .i64 f0, .int .i64 f1, .int .i64 f2, .int .i64 f3, .int .i64 f4] 25)
  have B3 := (B2.bel hb3).alloc (.cells #[.int .i64 f0, .int .i64 f1, .int .i64 f2, .int .i64 f3, .int .i64 f4] 25)
  have C3 := Blk.new w3 25 #[.int .i64 f0, .int .i64 f1, .int .i64 f2, .int .i64 f3, .int .i64 f4]
  clear hb3
  go_wp2_with fail
  refine (get_n (some ⟨b, o, none⟩) c l 64 60 4 _ (hr.below hbb3) hc hm HL.out).mono ?_
  rw [HE4.out.1, HE4.out.2.1, HE4.out.2.2]
  rintro e w4 ⟨rfl, hb4⟩
  have hbb4 := bt hbb3 hb4
  have B4 := B3.bel hb4
  have C4 := C3.bel hb4
  clear hb4
  go_wp2_with fail
  refine (room_any _ _).mono ?_
  rw [show roomI 1 = 43 from rfl]
  rintro e w5 ⟨rfl, rfl⟩
  go_wp2_with fail
  refine (sum_any (some ⟨b, o, none⟩) c (l.take 60) 60 _ ((hr.below hbb4).take _) (by rw [← HSl.out]; decide) HSl.out).mono ?_
  rw [← HV.out]
  rintro e w5 ⟨rfl, hb5⟩
  have hbb5 := bt hbb4 hb5
  have B5 := B4.bel hb5
  have C5 := C4.bel hb5
  clear hb5
  go_wp2_with fail
  refine (room_any _ _).mono ?_
  rw [show roomI 1 = 43 from rfl]
  rintro e w5 ⟨rfl, rfl⟩
  go_wp2_with fail
  refine (noughts_any (some ⟨b, o + (17 + x), none⟩) _ (frMid l) _ _ (hrM.below hbb5) HMl.out (by rw [← HMl.out]; omega) (by omega)).mono ?_
  rw [HMZ.out]
  rintro e w6 ⟨rfl, hb6⟩
  have hbb6 := bt hbb5 hb6
  have B6 := B5.bel hb6
  have C6 := C5.bel hb6
  clear hb6
  have f0 := B6.frozen
  have c0 := B6.c 0 (.int .i64 0) rfl
  have c1 := B6.c 1 (.int .i64 0) rfl
  have c2 := B6.c 2 (.int .i64 0) rfl
  have c3 := B6.c 3 (.int .i64 0) rfl
  have c4 := B6.c 4 (.int .i64 0) rfl
  go_wp2_with fail
  refine bodyPost_ret (v := .tuple #[.int .u8 2, .agg #[.int .i64 0, .int .i64 0, .int .i64 0, .int .i64 0, .int .i64 0], .slice none 0 0]) (by simp [results, Tryd.results10, go_sem, c0, c1, c2, c3, c4]) rfl ⟨none, 0, rfl, Mine.nil _ _ _, Nat.le_refl _, Nat.zero_le _, ?_⟩
  exact (((((hbb6.setCell (Nat.le_refl _) _).setCell (Nat.le_refl _) _).setCell (Nat.le_refl _) _).setCell (Nat.le_refl _) _).setCell (Nat.le_refl _) _)

set_option maxHeartbeats 4000000 in
theorem open_good_1 (A : Option Addr) (c : Nat) (l : List UInt8) (w : World) (hr : Rd w A l) (hc : l.length ≤ c) (hm : c ≤ maxLen) (hl : l.length = 64) (hz : zeroB l = false) (ht : tagB (frT l) = true) (hn : frN l ≤ 43) (hs : leN (l.drop 60) = sum (l.take 60)) (hz2 : zeroB (frMid l) = true) : Calls Tryd.prog 10 #[.slice A l.length c] w (RetF w 1 (.agg #[.int .i64 (getN (frT l) 0 1), .int .i64 (getN (frT l) 1 1), .int .i64 (getN (frT l) 2 1), .int .i64 (getN (frT l) 3 6), .int .i64 (getN (frT l) 9 6)]) ((l.drop 17).take (frN l))) := by
  have HZ := Lib.hid hz
  have hcm := hm
  unfold maxLen at hcm
  obtain ⟨b, o, rfl, hcl⟩ := hr.at_ (k := 0) (by omega)
  clear hcl
  obtain ⟨x, HX⟩ : ∃ x, Hid (x = frN l) := ⟨_, Lib.hid rfl⟩
  have HE : Hid (getE l 0 2 = 0 ∧ getP l 0 2 = 2 ∧ getN l 0 2 = x) := Lib.hid (by
    have he : getE l 0 2 = 0 := by unfold getE; rw [show isWidth 2 = true from rfl, if_neg (by simp), if_neg (by omega), if_neg (by omega)]
    refine ⟨he, by unfold getP; rw [he, if_pos rfl]; rfl, ?_⟩
    unfold getN
    rw [he, if_pos rfl, HX.out]
    rfl)
  have hx : x < 65536 := by rw [HX.out]; exact leN_take_lt l 0 2
  obtain ⟨u, HU⟩ : ∃ u, Hid (u = leN (l.drop 60)) := ⟨_, Lib.hid rfl⟩
  have HE4 : Hid (getE l 60 4 = 0 ∧ getP l 60 4 = 64 ∧ getN l 60 4 = u) := Lib.hid (by
    have he : getE l 60 4 = 0 := by unfold getE; rw [show isWidth 4 = true from rfl, if_neg (by simp), if_neg (by omega), if_neg (by omega)]
    refine ⟨he, by unfold getP; rw [he, if_pos rfl]; rfl, ?_⟩
    unfold getN
    rw [he, if_pos rfl, HU.out, List.take_of_length_le]
    · rfl
    · simp; omega)
  have hrT : Rd w (some ⟨b, o + 2, none⟩) (frT l) := Rd.cut hr b o 2 15 rfl (by omega)
  have HTl : Hid (15 = (frT l).length) := Lib.hid (by simp [frT]; omega)
  have hc64 : 64 ≤ c := by omega
  have n2 : ¬ c = 2 := by omega
  obtain ⟨f0, F0⟩ : ∃ f, Hid (f = getN (frT l) 0 1) := ⟨_, Lib.hid rfl⟩
  obtain ⟨f1, F1⟩ : ∃ f, Hid (f = getN (frT l) 1 1) := ⟨_, Lib.hid rfl⟩
  obtain ⟨f2, F2⟩ : ∃ f, Hid (f = getN (frT l) 2 1) := ⟨_, Lib.hid rfl⟩
  obtain ⟨f3, F3⟩ : ∃ f, Hid (f = getN (frT l) 3 6) := ⟨_, Lib.hid rfl⟩
  obtain ⟨f4, F4⟩ : ∃ f, Hid (f = getN (frT l) 9 6) := ⟨_, Lib.hid rfl⟩
  have HT : Hid (tagW (frT l) = .agg #[.int .i64 f0, .int .i64 f1, .int .i64 f2, .int .i64 f3, .int .i64 f4] ∧ tagP (frT l) = 0) := Lib.hid (by
    have := tagW_some ht
    rw [← F0.out, ← F1.out, ← F2.out, ← F3.out, ← F4.out] at this
    exact this)
  have hxr : decide ((43 : Int) < x) = false := decide_eq_false (by rw [HX.out]; omega)
  have hxr2 : x ≤ 43 := by rw [HX.out]; exact hn
  obtain ⟨v, HV⟩ : ∃ v, Hid (v = sum (l.take 60)) := ⟨_, Lib.hid rfl⟩
  have hv : v < 4294967296 := by rw [HV.out]; exact sum_lt _
  have HSl : Hid (60 = (l.take 60).length) := Lib.hid (by simp; omega)
  have hne : ((u : Int) != (v : Int)) = false := by rw [bne_eq_false_iff_eq, HU.out, HV.out, hs]
  have hmin : min (x : Int) 43 = x := by omega
  have n17 : ¬ c = 17 + x := by omega
  have hrM : Rd w (some ⟨b, o + (17 + x), none⟩) (frMid l) := by rw [HX.out]; exact Rd.cut hr b o (17 + frN l) (l.length - 4 - (17 + frN l)) rfl (by omega)
  have HMl : Hid (60 - (17 + x) = (frMid l).length) := Lib.hid (by simp [frMid, ← HX.out]; omega)
  rw [← F0.out, ← F1.out, ← F2.out, ← F3.out, ← F4.out]
  obtain ⟨D, HD⟩ : ∃ D, Hid (D = (l.drop 17).take (frN l)) := ⟨_, Lib.hid rfl⟩
  rw [← HD.out]
  have hrD : Rd w (some ⟨b, o + 17, none⟩) D := by rw [HD.out]; exact Rd.cut hr b o 17 (frN l) rfl (by omega)
  have HDl : Hid (x = D.length) := Lib.hid (by rw [HD.out, HX.out]; simp; omega)
  have n117 : ¬ c = 17 := by omega
  have HMZ := Lib.hid hz2
  clear ht hn hs hz2
  have HL : Hid (64 = l.length) := Lib.hid hl.symm
  rw [hl]
  clear hz hl
  go_enter Tryd.func10, Tryd.ntmps10
  go_wp2_with fail
  refine (room_any _ _).mono ?_
  rw [show roomI 1 = 43 from rfl]
  rintro e w1 ⟨rfl, rfl⟩
  go_wp2_with fail
  refine (noughts_any (some ⟨b, o, none⟩) c l 64 _ (hr.alloc _) HL.out hc hm).mono ?_
  rw [HZ.out]
  rintro e w1 ⟨rfl, hb1⟩
  have hbb1 := bac hb1
  have B1 := (Blk.new w 25 #[.int .i64 0, .int .i64 0, .int .i64 0, .int .i64 0, .int .i64 0]).bel hb1
  clear hb1
  go_wp2_with fail
  refine (get_n (some ⟨b, o, none⟩) c l 64 0 2 _ (hr.below hbb1) hc hm HL.out).mono ?_
  rw [HE.out.1, HE.out.2.1, HE.out.2.2]
  rintro e w2 ⟨rfl, hb2⟩
  have hbb2 := bt hbb1 hb2
  have B2 := B1.bel hb2
  clear hb2
  go_wp2_with fail
  refine (tparse_n (some ⟨b, o + 2, none⟩) (c - 2) (frT l) 15 _ (hrT.below hbb2) (by rw [← HTl.out]; omega) (by omega) HTl.out).mono ?_
  rw [HT.out.1, HT.out.2]
  rintro e w3 ⟨rfl, hb3⟩
  have hbb3 := bal (bt hbb2 hb3) (.cells #[.int .i64 f0, .int .i64 f1, .int .i64 f2, .int .i64 f3, .int .i64 f4] 25)
  have B3 := (B2.bel hb3).alloc (.cells #[.int .i64 f0, .int .i64 f1, .int .i64 f2, .int .i64 f3, .int .i64 f4] 25)
  have hlt3 := (B2.bel hb3).lt
  have C3 := Blk.new w3 25 #[.int .i64 f0, .int .i64 f1, .int .i64 f2, .int .i64 f3, .int .i64 f4]
  clear hb3
  go_wp2_with fail
  refine (get_n (some ⟨b, o, none⟩) c l 64 60 4 _ (hr.below hbb3) hc hm HL.out).mono ?_
  rw [HE4.out.1, HE4.out.2.1, HE4.out.2.2]
  rintro e w4 ⟨rfl, hb4⟩
  have hbb4 := bt hbb3 hb4
  have B4 := B3.bel hb4
  have C4 := C3.bel hb4
  clear hb4
  go_wp2_with fail
  refine (room_any _ _).mono ?_
  rw [show roomI 1 = 43 from rfl]
  rintro e w5 ⟨rfl, rfl⟩
  go_wp2_with fail
  refine (sum_any (some ⟨b, o, none⟩) c (l.take 60) 60 _ ((hr.below hbb4).take _) (by rw [← HSl.out]; decide) HSl.out).mono ?_
  rw [← HV.out]
  rintro e w5 ⟨rfl, hb5⟩
  have hbb5 := bt hbb4 hb5
  have B5 := B4.bel hb5
  have C5 := C4.bel hb5
  clear hb5
  go_wp2_with fail
  refine (room_any _ _).mono ?_
  rw [show roomI 1 = 43 from rfl]
  rintro e w5 ⟨rfl, rfl⟩
  go_wp2_with fail
  refine (noughts_any (some ⟨b, o + (17 + x), none⟩) _ (frMid l) _ _ (hrM.below hbb5) HMl.out (by rw [← HMl.out]; omega) (by omega)).mono ?_
  rw [HMZ.out]
  rintro e w6 ⟨rfl, hb6⟩
  have hbb6 := bt hbb5 hb6
  have B6 := B5.bel hb6
  have C6 := C5.bel hb6
  clear hb6
  go_wp2_with fail
  refine (clone_n (some ⟨b, o + 17, none⟩) _ D x _ (hrD.below hbb6) (by rw [← HDl.out]; omega) HDl.out).mono ?_
  rintro e w7 ⟨A7, c7, rfl, hown7, hb7⟩
  have hbb7 := bt hbb6 hb7
  have B7 := B6.bel hb7
  have C7 := C6.bel hb7
  have hcap : x ≤ c7 := by rw [HDl.out]; exact hown7.caps.1
  have hcap2 : c7 ≤ 9223372036854775807 := by have := hown7.caps.2; unfold maxLen at this; exact this
  have hcap3 : (x : Int) ≤ c7 := by omega
  have hlt6 : w.heap.size < w6.heap.size := B6.lt
  have hne0 : w3.heap.size ≠ w.heap.size := by omega
  have hne1 : w.heap.size ≠ w3.heap.size := by omega
  rw [← HDl.out]
  have fz := B7.frozen
  have c0 := B7.c 0 (.int .i64 0) rfl
  have c1 := B7.c 1 (.int .i64 0) rfl
  have c2 := B7.c 2 (.int .i64 0) rfl
  have c3 := B7.c 3 (.int .i64 0) rfl
  have c4 := B7.c 4 (.int .i64 0) rfl
  have d0 := C7.c 0 (.int .i64 f0) rfl
  have d1 := C7.c 1 (.int .i64 f1) rfl
  have d2 := C7.c 2 (.int .i64 f2) rfl
  have d3 := C7.c 3 (.int .i64 f3) rfl
  have d4 := C7.c 4 (.int .i64 f4) rfl
  go_wp2_with fail
  go_region_held3 (fun w' => w'.cell? ⟨w3.heap.size, 0, none⟩ = some (.int .i64 f0) ∧ w'.cell? ⟨w3.heap.size, 1, none⟩ = some (.int .i64 f1) ∧ w'.cell? ⟨w3.heap.size, 2, none⟩ = some (.int .i64 f2) ∧ w'.cell? ⟨w3.heap.size, 3, none⟩ = some (.int .i64 f3) ∧ w'.cell? ⟨w3.heap.size, 4, none⟩ = some (.int .i64 f4)) (go_keep) (first | fail)
  all_goals
    go_wp2_with fail
    refine bodyPost_ret (v := .tuple #[.int .u8 1, .agg #[.int .i64 f0, .int .i64 f1, .int .i64 f2, .int .i64 f3, .int .i64 f4], .slice A7 x x]) (by simp [results, Tryd.results10, go_sem, c0, c1, c2, c3, c4]) rfl ⟨A7, x, by rw [← HDl.out], ?_, by rw [← HDl.out]; exact Nat.le_refl _, by unfold maxLen; omega, ?_⟩
    · exact (((((((hown7.put hlt6 _).put hlt6 _).put hlt6 _).put hlt6 _).put hlt6 _).drew).mono (Nat.le_of_lt hlt6)).mine
    · exact (((((hbb7.setCell (Nat.le_refl _) _).setCell (Nat.le_refl _) _).setCell (Nat.le_refl _) _).setCell (Nat.le_refl _) _).setCell (Nat.le_refl _) _).drew
set_option maxHeartbeats 2000000 in
theorem open_blank_2 (A : Option Addr) (c : Nat) (l : List UInt8) (w : World) (hr : Rd w A l) (hc : l.length ≤ c) (hm : c ≤ maxLen) (hl : l.length = 128) (hz : zeroB l = true) : Calls Tryd.prog 10 #[.slice A l.length c] w (RetF w 0 (.agg #[.int .i64 0, .int .i64 0, .int .i64 0, .int .i64 0, .int .i64 0]) []) := by
  have HZ := Lib.hid hz
  have HL : Hid (128 = l.length) := Lib.hid hl.symm
  rw [hl]
  clear hz hl
  go_enter Tryd.func10, Tryd.ntmps10
  go_wp2_with fail
  refine (room_any _ _).mono ?_
  rw [show roomI 2 = 88 from rfl]
  rintro e w1 ⟨rfl, rfl⟩
  go_wp2_with fail
  refine (noughts_any A c l 128 _ (hr.alloc _) HL.out hc hm).mono ?_
  rw [HZ.out]
  rintro e w1 ⟨rfl, hb1⟩
  have B1 := (Blk.new w 25 #[.int .i64 0, .int .i64 0, .int .i64 0, .int .i64 0, .int .i64 0]).bel hb1
  have hbb := bac hb1
  have f0 := B1.frozen
  have c0 := B1.c 0 (.int .i64 0) rfl
  have c1 := B1.c 1 (.int .i64 0) rfl
  have c2 := B1.c 2 (.int .i64 0) rfl
  have c3 := B1.c 3 (.int .i64 0) rfl
  have c4 := B1.c 4 (.int .i64 0) rfl
  go_wp2_with fail
  refine bodyPost_ret (v := .tuple #[.int .u8 0, .agg #[.int .i64 0, .int .i64 0, .int .i64 0, .int .i64 0, .int .i64 0], .slice none 0 0]) (by simp [results, Tryd.results10, go_sem, c0, c1, c2, c3, c4]) rfl ⟨none, 0, rfl, Mine.nil _ _ _, Nat.le_refl _, Nat.zero_le _, ?_⟩
  exact (((((hbb.setCell (Nat.le_refl _) _).setCell (Nat.le_refl _) _).setCell (Nat.le_refl _) _).setCell (Nat.le_refl _) _).setCell (Nat.le_refl _) _)

set_option maxHeartbeats 4000000 in
theorem open_tag_2 (A : Option Addr) (c : Nat) (l : List UInt8) (w : World) (hr : Rd w A l) (hc : l.length ≤ c) (hm : c ≤ maxLen) (hl : l.length = 128) (hz : zeroB l = false) (ht : tagB (frT l) = false) : Calls Tryd.prog 10 #[.slice A l.length c] w (RetF w 2 (.agg #[.int .i64 0, .int .i64 0, .int .i64 0, .int .i64 0, .int .i64 0]) []) := by
  have HZ := Lib.hid hz
  have hcm := hm
  unfold maxLen at hcm
  obtain ⟨b, o, rfl, hcl⟩ := hr.at_ (k := 0) (by omega)
  clear hcl
  obtain ⟨x, HX⟩ : ∃ x, Hid (x = frN l) := ⟨_, Lib.hid rfl⟩
  have HE : Hid (getE l 0 2 = 0 ∧ getP l 0 2 = 2 ∧ getN l 0 2 = x) := Lib.hid (by
    have he : getE l 0 2 = 0 := by unfold getE; rw [show isWidth 2 = true from rfl, if_neg (by simp), if_neg (by omega), if_neg (by omega)]
    refine ⟨he, by unfold getP; rw [he, if_pos rfl]; rfl, ?_⟩
    unfold getN
    rw [he, if_pos rfl, HX.out]
    rfl)
  have hx : x < 65536 := by rw [HX.out]; exact leN_take_lt l 0 2
  obtain ⟨u, HU⟩ : ∃ u, Hid (u = leN (l.drop 124)) := ⟨_, Lib.hid rfl⟩
  have HE4 : Hid (getE l 124 4 = 0 ∧ getP l 124 4 = 128 ∧ getN l 124 4 = u) := Lib.hid (by
    have he : getE l 124 4 = 0 := by unfold getE; rw [show isWidth 4 = true from rfl, if_neg (by simp), if_neg (by omega), if_neg (by omega)]
    refine ⟨he, by unfold getP; rw [he, if_pos rfl]; rfl, ?_⟩
    unfold getN
    rw [he, if_pos rfl, HU.out, List.take_of_length_le]
    · rfl
    · simp; omega)
  have hrT : Rd w (some ⟨b, o + 2, none⟩) (frT l) := Rd.cut hr b o 2 15 rfl (by omega)
  have HTl : Hid (15 = (frT l).length) := Lib.hid (by simp [frT]; omega)
  have hc64 : 128 ≤ c := by omega
  have n2 : ¬ c = 2 := by omega
  have HT : Hid (tagW (frT l) = .agg #[.int .i64 0, .int .i64 0, .int .i64 0, .int .i64 0, .int .i64 0] ∧ tagP (frT l) = 30) := Lib.hid (tagW_none ht)
  clear ht
  have HL : Hid (128 = l.length) := Lib.hid hl.symm
  rw [hl]
  clear hz hl
  go_enter Tryd.func10, Tryd.ntmps10
  go_wp2_with fail
  refine (room_any _ _).mono ?_
  rw [show roomI 2 = 88 from rfl]
  rintro e w1 ⟨rfl, rfl⟩
  go_wp2_with fail
  refine (noughts_any (some ⟨b, o, none⟩) c l 128 _ (hr.alloc _) HL.out hc hm).mono ?_
  rw [HZ.out]
  rintro e w1 ⟨rfl, hb1⟩
  have hbb1 := bac hb1
  have B1 := (Blk.new w 25 #[.int .i64 0, .int .i64 0, .int .i64 0, .int .i64 0, .int .i64 0]).bel hb1
  clear hb1
  go_wp2_with fail
  refine (get_n (some ⟨b, o, none⟩) c l 128 0 2 _ (hr.below hbb1) hc hm HL.out).mono ?_
  rw [HE.out.1, HE.out.2.1, HE.out.2.2]
  rintro e w2 ⟨rfl, hb2⟩
  have hbb2 := bt hbb1 hb2
  have B2 := B1.bel hb2
  clear hb2
  go_wp2_with fail
  refine (tparse_n (some ⟨b, o + 2, none⟩) (c - 2) (frT l) 15 _ (hrT.below hbb2) (by rw [← HTl.out]; omega) (by omega) HTl.out).mono ?_
  rw [HT.out.1, HT.out.2]
  rintro e w3 ⟨rfl, hb3⟩
  have hbb3 := bal (bt hbb2 hb3) (.cells #[.int .i64 0, .int .i64 0, .int .i64 0, .int .i64 0, .int .i64 0] 25)
  have B3 := (B2.bel hb3).alloc (.cells #[.int .i64 0, .int .i64 0, .int .i64 0, .int .i64 0, .int .i64 0] 25)
  have C3 := Blk.new w3 25 #[.int .i64 0, .int .i64 0, .int .i64 0, .int .i64 0, .int .i64 0]
  clear hb3
  go_wp2_with fail
  refine (get_n (some ⟨b, o, none⟩) c l 128 124 4 _ (hr.below hbb3) hc hm HL.out).mono ?_
  rw [HE4.out.1, HE4.out.2.1, HE4.out.2.2]
  rintro e w4 ⟨rfl, hb4⟩
  have hbb4 := bt hbb3 hb4
  have B4 := B3.bel hb4
  have C4 := C3.bel hb4
  clear hb4
  have f0 := B4.frozen
  have c0 := B4.c 0 (.int .i64 0) rfl
  have c1 := B4.c 1 (.int .i64 0) rfl
  have c2 := B4.c 2 (.int .i64 0) rfl
  have c3 := B4.c 3 (.int .i64 0) rfl
  have c4 := B4.c 4 (.int .i64 0) rfl
  go_wp2_with fail
  refine bodyPost_ret (v := .tuple #[.int .u8 2, .agg #[.int .i64 0, .int .i64 0, .int .i64 0, .int .i64 0, .int .i64 0], .slice none 0 0]) (by simp [results, Tryd.results10, go_sem, c0, c1, c2, c3, c4]) rfl ⟨none, 0, rfl, Mine.nil _ _ _, Nat.le_refl _, Nat.zero_le _, ?_⟩
  exact (((((hbb4.setCell (Nat.le_refl _) _).setCell (Nat.le_refl _) _).setCell (Nat.le_refl _) _).setCell (Nat.le_refl _) _).setCell (Nat.le_refl _) _)

set_option maxHeartbeats 4000000 in
theorem open_room_2 (A : Option Addr) (c : Nat) (l : List UInt8) (w : World) (hr : Rd w A l) (hc : l.length ≤ c) (hm : c ≤ maxLen) (hl : l.length = 128) (hz : zeroB l = false) (ht : tagB (frT l) = true) (hn : 88 < frN l) : Calls Tryd.prog 10 #[.slice A l.length c] w (RetF w 2 (.agg #[.int .i64 0, .int .i64 0, .int .i64 0, .int .i64 0, .int .i64 0]) []) := by
  have HZ := Lib.hid hz
  have hcm := hm
  unfold maxLen at hcm
  obtain ⟨b, o, rfl, hcl⟩ := hr.at_ (k := 0) (by omega)
  clear hcl
  obtain ⟨x, HX⟩ : ∃ x, Hid (x = frN l) := ⟨_, Lib.hid rfl⟩
  have HE : Hid (getE l 0 2 = 0 ∧ getP l 0 2 = 2 ∧ getN l 0 2 = x) := Lib.hid (by
    have he : getE l 0 2 = 0 := by unfold getE; rw [show isWidth 2 = true from rfl, if_neg (by simp), if_neg (by omega), if_neg (by omega)]
    refine ⟨he, by unfold getP; rw [he, if_pos rfl]; rfl, ?_⟩
    unfold getN
    rw [he, if_pos rfl, HX.out]
    rfl)
  have hx : x < 65536 := by rw [HX.out]; exact leN_take_lt l 0 2
  obtain ⟨u, HU⟩ : ∃ u, Hid (u = leN (l.drop 124)) := ⟨_, Lib.hid rfl⟩
  have HE4 : Hid (getE l 124 4 = 0 ∧ getP l 124 4 = 128 ∧ getN l 124 4 = u) := Lib.hid (by
    have he : getE l 124 4 = 0 := by unfold getE; rw [show isWidth 4 = true from rfl, if_neg (by simp), if_neg (by omega), if_neg (by omega)]
    refine ⟨he, by unfold getP; rw [he, if_pos rfl]; rfl, ?_⟩
    unfold getN
    rw [he, if_pos rfl, HU.out, List.take_of_length_le]
    · rfl
    · simp; omega)
  have hrT : Rd w (some ⟨b, o + 2, none⟩) (frT l) := Rd.cut hr b o 2 15 rfl (by omega)
  have HTl : Hid (15 = (frT l).length) := Lib.hid (by simp [frT]; omega)
  have hc64 : 128 ≤ c := by omega
  have n2 : ¬ c = 2 := by omega
  obtain ⟨f0, F0⟩ : ∃ f, Hid (f = getN (frT l) 0 1) := ⟨_, Lib.hid rfl⟩
  obtain ⟨f1, F1⟩ : ∃ f, Hid (f = getN (frT l) 1 1) := ⟨_, Lib.hid rfl⟩
  obtain ⟨f2, F2⟩ : ∃ f, Hid (f = getN (frT l) 2 1) := ⟨_, Lib.hid rfl⟩
  obtain ⟨f3, F3⟩ : ∃ f, Hid (f = getN (frT l) 3 6) := ⟨_, Lib.hid rfl⟩
  obtain ⟨f4, F4⟩ : ∃ f, Hid (f = getN (frT l) 9 6) := ⟨_, Lib.hid rfl⟩
  have HT : Hid (tagW (frT l) = .agg #[.int .i64 f0, .int .i64 f1, .int .i64 f2, .int .i64 f3, .int .i64 f4] ∧ tagP (frT l) = 0) := Lib.hid (by
    have := tagW_some ht
    rw [← F0.out, ← F1.out, ← F2.out, ← F3.out, ← F4.out] at this
    exact this)
  have hxr : (88 : Int) < x := by rw [HX.out]; omega
  clear ht hn
  have HL : Hid (128 = l.length) := Lib.hid hl.symm
  rw [hl]
  clear hz hl
  go_enter Tryd.func10, Tryd.ntmps10
  go_wp2_with fail
  refine (room_any _ _).mono ?_
  rw [show roomI 2 = 88 from rfl]
  rintro e w1 ⟨rfl, rfl⟩
  go_wp2_with fail
  refine (noughts_any (some ⟨b, o, none⟩) c l 128 _ (hr.alloc _) HL.out hc hm).mono ?_
  rw [HZ.out]
  rintro e w1 ⟨rfl, hb1⟩
  have hbb1 := bac hb1
  have B1 := (Blk.new w 25 #[.int .i64 0, .int .i64 0, .int .i64 0, .int .i64 0, .int .i64 0]).bel hb1
  clear hb1
  go_wp2_with fail
  refine (get_n (some ⟨b, o, none⟩) c l 128 0 2 _ (hr.below hbb1) hc hm HL.out).mono ?_
  rw [HE.out.1, HE.out.2.1, HE.out.2.2]
  rintro e w2 ⟨rfl, hb2⟩
  have hbb2 := bt hbb1 hb2
  have B2 := B1.bel hb2
  clear hb2
  go_wp2_with fail
  refine (tparse_n (some ⟨b, o + 2, none⟩) (c - 2) (frT l) 15 _ (hrT.below hbb2) (by rw [← HTl.out]; omega) (by omega) HTl.out).mono ?_
  rw [HT.out.1, HT.out.2]
  rintro e w3 ⟨rfl, hb3⟩
  have hbb3 := bal (bt hbb2 hb3) (.cells #[.int .i64 f0, .int .i64 f1, .int .i64 f2, .int .i64 f3, .int .i64 f4] 25)
  have B3 := (B2.bel hb3).alloc (.cells #[.int .i64 f0, .int .i64 f1, .int .i64 f2, .int .i64 f3, .int .i64 f4] 25)
  have C3 := Blk.new w3 25 #[.int .i64 f0, .int .i64 f1, .int .i64 f2, .int .i64 f3, .int .i64 f4]
  clear hb3
  go_wp2_with fail
  refine (get_n (some ⟨b, o, none⟩) c l 128 124 4 _ (hr.below hbb3) hc hm HL.out).mono ?_
  rw [HE4.out.1, HE4.out.2.1, HE4.out.2.2]
  rintro e w4 ⟨rfl, hb4⟩
  have hbb4 := bt hbb3 hb4
  have B4 := B3.bel hb4
  have C4 := C3.bel hb4
  clear hb4
  have f0 := B4.frozen
  have c0 := B4.c 0 (.int .i64 0) rfl
  have c1 := B4.c 1 (.int .i64 0) rfl
  have c2 := B4.c 2 (.int .i64 0) rfl
  have c3 := B4.c 3 (.int .i64 0) rfl
  have c4 := B4.c 4 (.int .i64 0) rfl
  go_wp2_with fail
  refine (room_any _ _).mono ?_
  rw [show roomI 2 = 88 from rfl]
  rintro e w5 ⟨rfl, rfl⟩
  go_wp2_with fail
  refine bodyPost_ret (v := .tuple #[.int .u8 2, .agg #[.int .i64 0, .int .i64 0, .int .i64 0, .int .i64 0, .int .i64 0], .slice none 0 0]) (by simp [results, Tryd.results10, go_sem, c0, c1, c2, c3, c4]) rfl ⟨none, 0, rfl, Mine.nil _ _ _, Nat.le_refl _, Nat.zero_le _, ?_⟩
  exact (((((hbb4.setCell (Nat.le_refl _) _).setCell (Nat.le_refl _) _).setCell (Nat.le_refl _) _).setCell (Nat.le_refl _) _).setCell (Nat.le_refl _) _)

set_option maxHeartbeats 4000000 in
theorem open_sum_2 (A : Option Addr) (c : Nat) (l : List UInt8) (w : World) (hr : Rd w A l) (hc : l.length ≤ c) (hm : c ≤ maxLen) (hl : l.length = 128) (hz : zeroB l = false) (ht : tagB (frT l) = true) (hn : frN l ≤ 88) (hs : leN (l.drop 124) ≠ sum (l.take 124)) : Calls Tryd.prog 10 #[.slice A l.length c] w (RetF w 2 (.agg #[.int .i64 0, .int .i64 0, .int .i64 0, .int .i64 0, .int .i64 0]) []) := by
  have HZ := Lib.hid hz
  have hcm := hm
  unfold maxLen at hcm
  obtain ⟨b, o, rfl, hcl⟩ := hr.at_ (k := 0) (by omega)
  clear hcl
  obtain ⟨x, HX⟩ : ∃ x, Hid (x = frN l) := ⟨_, Lib.hid rfl⟩
  have HE : Hid (getE l 0 2 = 0 ∧ getP l 0 2 = 2 ∧ getN l 0 2 = x) := Lib.hid (by
    have he : getE l 0 2 = 0 := by unfold getE; rw [show isWidth 2 = true from rfl, if_neg (by simp), if_neg (by omega), if_neg (by omega)]
    refine ⟨he, by unfold getP; rw [he, if_pos rfl]; rfl, ?_⟩
    unfold getN
    rw [he, if_pos rfl, HX.out]
    rfl)
  have hx : x < 65536 := by rw [HX.out]; exact leN_take_lt l 0 2
  obtain ⟨u, HU⟩ : ∃ u, Hid (u = leN (l.drop 124)) := ⟨_, Lib.hid rfl⟩
  have HE4 : Hid (getE l 124 4 = 0 ∧ getP l 124 4 = 128 ∧ getN l 124 4 = u) := Lib.hid (by
    have he : getE l 124 4 = 0 := by unfold getE; rw [show isWidth 4 = true from rfl, if_neg (by simp), if_neg (by omega), if_neg (by omega)]
    refine ⟨he, by unfold getP; rw [he, if_pos rfl]; rfl, ?_⟩
    unfold getN
    rw [he, if_pos rfl, HU.out, List.take_of_length_le]
    · rfl
    · simp; omega)
  have hrT : Rd w (some ⟨b, o + 2, none⟩) (frT l) := Rd.cut hr b o 2 15 rfl (by omega)
  have HTl : Hid (15 = (frT l).length) := Lib.hid (by simp [frT]; omega)
  have hc64 : 128 ≤ c := by omega
  have n2 : ¬ c = 2 := by omega
  obtain ⟨f0, F0⟩ : ∃ f, Hid (f = getN (frT l) 0 1) := ⟨_, Lib.hid rfl⟩
  obtain ⟨f1, F1⟩ : ∃ f, Hid (f = getN (frT l) 1 1) := ⟨_, Lib.hid rfl⟩
  obtain ⟨f2, F2⟩ : ∃ f, Hid (f = getN (frT l) 2 1) := ⟨_, Lib.hid rfl⟩
  obtain ⟨f3, F3⟩ : ∃ f, Hid (f = getN (frT l) 3 6) := ⟨_, Lib.hid rfl⟩
  obtain ⟨f4, F4⟩ : ∃ f, Hid (f = getN (frT l) 9 6) := ⟨_, Lib.hid rfl⟩
  have HT : Hid (tagW (frT l) = .agg #[.int .i64 f0, .int .i64 f1, .int .i64 f2, .int .i64 f3, .int .i64 f4] ∧ tagP (frT l) = 0) := Lib.hid (by
    have := tagW_some ht
    rw [← F0.out, ← F1.out, ← F2.out, ← F3.out, ← F4.out] at this
    exact this)
  have hxr : decide ((88 : Int) < x) = false := decide_eq_false (by rw [HX.out]; omega)
  have hxr2 : x ≤ 88 := by rw [HX.out]; exact hn
  obtain ⟨v, HV⟩ : ∃ v, Hid (v = sum (l.take 124)) := ⟨_, Lib.hid rfl⟩
  have hv : v < 4294967296 := by rw [HV.out]; exact sum_lt _
  have HSl : Hid (124 = (l.take 124).length) := Lib.hid (by simp; omega)
  have hne : ((u : Int) != (v : Int)) = true := by rw [bne_iff_ne, HU.out, HV.out]; omega
  clear ht hn hs
  have HL : Hid (128 = l.length) := Lib.hid hl.symm
  rw [hl]
  clear hz hl
  go_enter Tryd.func10, Tryd.ntmps10
  go_wp2_with fail
  refine (room_any _ _).mono ?_
  rw [show roomI 2 = 88 from rfl]
  rintro e w1 ⟨rfl, rfl⟩
  go_wp2_with fail
  refine (noughts_any (some ⟨b, o, none⟩) c l 128 _ (hr.alloc _) HL.out hc hm).mono ?_
  rw [HZ.out]
  rintro e w1 ⟨rfl, hb1⟩
  have hbb1 := bac hb1
  have B1 := (Blk.new w 25 #[.int .i64 0, .int .i64 0, .int .i64 0, .int .i64 0, .int .i64 0]).bel hb1
  clear hb1
  go_wp2_with fail
  refine (get_n (some ⟨b, o, none⟩) c l 128 0 2 _ (hr.below hbb1) hc hm HL.out).mono ?_
  rw [HE.out.1, HE.out.2.1, HE.out.2.2]
  rintro e w2 ⟨rfl, hb2⟩
  have hbb2 := bt hbb1 hb2
  have B2 := B1.bel hb2
  clear hb2
  go_wp2_with fail
  refine (tparse_n (some ⟨b, o + 2, none⟩) (c - 2) (frT l) 15 _ (hrT.below hbb2) (by rw [← HTl.out]; omega) (by omega) HTl.out).mono ?_
  rw [HT.out.1, HT.out.2]
  rintro e w3 ⟨rfl, hb3⟩
  have hbb3 := bal (bt hbb2 hb3) (.cells #[.int .i64 f0, .int .i64 f1, .int .i64 f2, .int .i64 f3, .int .i64 f4] 25)
  have B3 := (B2.bel hb3).alloc (.cells #[.int .i64 f0, .int .i64 f1, .int .i64 f2, .int .i64 f3, .int .i64 f4] 25)
  have C3 := Blk.new w3 25 #[.int .i64 f0, .int .i64 f1, .int .i64 f2, .int .i64 f3, .int .i64 f4]
  clear hb3
  go_wp2_with fail
  refine (get_n (some ⟨b, o, none⟩) c l 128 124 4 _ (hr.below hbb3) hc hm HL.out).mono ?_
  rw [HE4.out.1, HE4.out.2.1, HE4.out.2.2]
  rintro e w4 ⟨rfl, hb4⟩
  have hbb4 := bt hbb3 hb4
  have B4 := B3.bel hb4
  have C4 := C3.bel hb4
  clear hb4
  go_wp2_with fail
  refine (room_any _ _).mono ?_
  rw [show roomI 2 = 88 from rfl]
  rintro e w5 ⟨rfl, rfl⟩
  go_wp2_with fail
  refine (sum_any (some ⟨b, o, none⟩) c (l.take 124) 124 _ ((hr.below hbb4).take _) (by rw [← HSl.out]; decide) HSl.out).mono ?_
  rw [← HV.out]
  rintro e w5 ⟨rfl, hb5⟩
  have hbb5 := bt hbb4 hb5
  have B5 := B4.bel hb5
  have C5 := C4.bel hb5
  clear hb5
  have f0 := B5.frozen
  have c0 := B5.c 0 (.int .i64 0) rfl
  have c1 := B5.c 1 (.int .i64 0) rfl
  have c2 := B5.c 2 (.int .i64 0) rfl
  have c3 := B5.c 3 (.int .i64 0) rfl
  have c4 := B5.c 4 (.int .i64 0) rfl
  go_wp2_with fail
  refine bodyPost_ret (v := .tuple #[.int .u8 2, .agg #[.int .i64 0, .int .i64 0, .int .i64 0, .int .i64 0, .int .i64 0], .slice none 0 0]) (by simp [results, Tryd.results10, go_sem, c0, c1, c2, c3, c4]) rfl ⟨none, 0, rfl, Mine.nil _ _ _, Nat.le_refl _, Nat.zero_le _, ?_⟩
  exact (((((hbb5.setCell (Nat.le_refl _) _).setCell (Nat.le_refl _) _).setCell (Nat.le_refl _) _).setCell (Nat.le_refl _) _).setCell (Nat.le_refl _) _)

set_option maxHeartbeats 4000000 in
theorem open_mid_2 (A : Option Addr) (c : Nat) (l : List UInt8) (w : World) (hr : Rd w A l) (hc : l.length ≤ c) (hm : c ≤ maxLen) (hl : l.length = 128) (hz : zeroB l = false) (ht : tagB (frT l) = true) (hn : frN l ≤ 88) (hs : leN (l.drop 124) = sum (l.take 124)) (hz2 : zeroB (frMid l) = false) : Calls Tryd.prog 10 #[.slice A l.length c] w (RetF w 2 (.agg #[.int .i64 0, .int .i64 0, .int .i64 0, .int .i64 0, .int .i64 0]) []) := by
  have HZ := Lib.hid hz
  have hcm := hm
  unfold maxLen at hcm
  obtain ⟨b, o, rfl, hcl⟩ := hr.at_ (k := 0) (by omega)
  clear hcl
  obtain ⟨x, HX⟩ : ∃ x, Hid (x = frN l) := ⟨_, Lib.hid rfl⟩
  have HE : Hid (getE l 0 2 = 0 ∧ getP l 0 2 = 2 ∧ getN l 0 2 = x) := Lib.hid (by
    have he : getE l 0 2 = 0 := by unfold getE; rw [show isWidth 2 = true from rfl, if_neg (by simp), if_neg (by omega), if_neg (by omega)]
    refine ⟨he, by unfold getP; rw [he, if_pos rfl]; rfl, ?_⟩
    unfold getN
    rw [he, if_pos rfl, HX.out]
    rfl)
  have hx : x < 65536 := by rw [HX.out]; exact leN_take_lt l 0 2
  obtain ⟨u, HU⟩ : ∃ u, Hid (u = leN (l.drop 124)) := ⟨_, Lib.hid rfl⟩
  have HE4 : Hid (getE l 124 4 = 0 ∧ getP l 124 4 = 128 ∧ getN l 124 4 = u) := Lib.hid (by
    have he : getE l 124 4 = 0 := by unfold getE; rw [show isWidth 4 = true from rfl, if_neg (by simp), if_neg (by omega), if_neg (by omega)]
    refine ⟨he, by unfold getP; rw [he, if_pos rfl]; rfl, ?_⟩
    unfold getN
    rw [he, if_pos rfl, HU.out, List.take_of_length_le]
    · rfl
    · simp; omega)
  have hrT : Rd w (some ⟨b, o + 2, none⟩) (frT l) := Rd.cut hr b o 2 15 rfl (by omega)
  have HTl : Hid (15 = (frT l).length) := Lib.hid (by simp [frT]; omega)
  have hc64 : 128 ≤ c := by omega
  have n2 : ¬ c = 2 := by omega
  obtain ⟨f0, F0⟩ : ∃ f, Hid (f = getN (frT l) 0 1) := ⟨_, Lib.hid rfl⟩
  obtain ⟨f1, F1⟩ : ∃ f, Hid (f = getN (frT l) 1 1) := ⟨_, Lib.hid rfl⟩
  obtain ⟨f2, F2⟩ : ∃ f, Hid (f = getN (frT l) 2 1) := ⟨_, Lib.hid rfl⟩
  obtain ⟨f3, F3⟩ : ∃ f, Hid (f = getN (frT l) 3 6) := ⟨_, Lib.hid rfl⟩
  obtain ⟨f4, F4⟩ : ∃ f, Hid (f = getN (frT l) 9 6) := ⟨_, Lib.hid rfl⟩
  have HT : Hid (tagW (frT l) = .agg #[.int .i64 f0, .int .i64 f1, .int .i64 f2, .int .i64 f3, .int .i64 f4] ∧ tagP (frT l) = 0) := Lib.hid (by
    have := tagW_some ht
    rw [← F0.out, ← F1.out, ← F2.out, ← F3.out, ← F4.out] at this
    exact this)
  have hxr : decide ((88 : Int) < x) = false := decide_eq_false (by rw [HX.out]; omega)
  have hxr2 : x ≤ 88 := by rw [HX.out]; exact hn
  obtain ⟨v, HV⟩ : ∃ v, Hid (v = sum (l.take 124)) := ⟨_, Lib.hid rfl⟩
  have hv : v < 4294967296 := by rw [HV.out]; exact sum_lt _
  have HSl : Hid (124 = (l.take 124).length) := Lib.hid (by simp; omega)
  have hne : ((u : Int) != (v : Int)) = false := by rw [bne_eq_false_iff_eq, HU.out, HV.out, hs]
  have hmin : min (x : Int) 88 = x := by omega
  have n17 : ¬ c = 17 + x := by omega
  have hrM : Rd w (some ⟨b, o + (17 + x), none⟩) (frMid l) := by rw [HX.out]; exact Rd.cut hr b o (17 + frN l) (l.length - 4 - (17 + frN l)) rfl (by omega)
  have HMl : Hid (124 - (17 + x) = (frMid l).length) := Lib.hid (by simp [frMid, ← HX.out]; omega)
  have HMZ := Lib.hid hz2
  clear ht hn hs hz2
  have HL : Hid (128 = l.length) := Lib.hid hl.symm
  rw [hl]
  clear hz hl
  go_enter Tryd.func10, Tryd.ntmps10
  go_wp2_with fail
  refine (room_any _ _).mono ?_
  rw [show roomI 2 = 88 from rfl]
  rintro e w1 ⟨rfl, rfl⟩
  go_wp2_with fail
  refine (noughts_any (some ⟨b, o, none⟩) c l 128 _ (hr.alloc _) HL.out hc hm).mono ?_
  rw [HZ.out]
  rintro e w1 ⟨rfl, hb1⟩
  have hbb1 := bac hb1
  have B1 := (Blk.new w 25 #[.int .i64 0, .int .i64 0, .int .i64 0, .int .i64 0, .int .i64 0]).bel hb1
  clear hb1
  go_wp2_with fail
  refine (get_n (some ⟨b, o, none⟩) c l 128 0 2 _ (hr.below hbb1) hc hm HL.out).mono ?_
  rw [HE.out.1, HE.out.2.1, HE.out.2.2]
  rintro e w2 ⟨rfl, hb2⟩
  have hbb2 := bt hbb1 hb2
  have B2 := B1.bel hb2
  clear hb2
  go_wp2_with fail
  refine (tparse_n (some ⟨b, o + 2, none⟩) (c - 2) (frT l) 15 _ (hrT.below hbb2) (by rw [← HTl.out]; omega) (by omega) HTl.out).mono ?_
  rw [HT.out.1, HT.out.2]
  rintro e w3 ⟨rfl, hb3⟩
  have hbb3 := bal (bt hbb2 hb3) (.cells #[.int .i64 f0, .int .i64 f1, .int .i64 f2, .int .i64 f3, .int .i64 f4] 25)
  have B3 := (B2.bel hb3).alloc (.cells #[.int .i64 f0, .int .i64 f1, .int .i64 f2, .int .i64 f3, .int .i64 f4] 25)
  have C3 := Blk.new w3 25 #[.int .i64 f0, .int .i64 f1, .int .i64 f2, .int .i64 f3, .int .i64 f4]
  clear hb3
  go_wp2_with fail
  refine (get_n (some ⟨b, o, none⟩) c l 128 124 4 _ (hr.below hbb3) hc hm HL.out).mono ?_
  rw [HE4.out.1, HE4.out.2.1, HE4.out.2.2]
  rintro e w4 ⟨rfl, hb4⟩
  have hbb4 := bt hbb3 hb4
  have B4 := B3.bel hb4
  have C4 := C3.bel hb4
  clear hb4
  go_wp2_with fail
  refine (room_any _ _).mono ?_
  rw [show roomI 2 = 88 from rfl]
  rintro e w5 ⟨rfl, rfl⟩
  go_wp2_with fail
  refine (sum_any (some ⟨b, o, none⟩) c (l.take 124) 124 _ ((hr.below hbb4).take _) (by rw [← HSl.out]; decide) HSl.out).mono ?_
  rw [← HV.out]
  rintro e w5 ⟨rfl, hb5⟩
  have hbb5 := bt hbb4 hb5
  have B5 := B4.bel hb5
  have C5 := C4.bel hb5
  clear hb5
  go_wp2_with fail
  refine (room_any _ _).mono ?_
  rw [show roomI 2 = 88 from rfl]
  rintro e w5 ⟨rfl, rfl⟩
  go_wp2_with fail
  refine (noughts_any (some ⟨b, o + (17 + x), none⟩) _ (frMid l) _ _ (hrM.below hbb5) HMl.out (by rw [← HMl.out]; omega) (by omega)).mono ?_
  rw [HMZ.out]
  rintro e w6 ⟨rfl, hb6⟩
  have hbb6 := bt hbb5 hb6
  have B6 := B5.bel hb6
  have C6 := C5.bel hb6
  clear hb6
  have f0 := B6.frozen
  have c0 := B6.c 0 (.int .i64 0) rfl
  have c1 := B6.c 1 (.int .i64 0) rfl
  have c2 := B6.c 2 (.int .i64 0) rfl
  have c3 := B6.c 3 (.int .i64 0) rfl
  have c4 := B6.c 4 (.int .i64 0) rfl
  go_wp2_with fail
  refine bodyPost_ret (v := .tuple #[.int .u8 2, .agg #[.int .i64 0, .int .i64 0, .int .i64 0, .int .i64 0, .int .i64 0], .slice none 0 0]) (by simp [results, Tryd.results10, go_sem, c0, c1, c2, c3, c4]) rfl ⟨none, 0, rfl, Mine.nil _ _ _, Nat.le_refl _, Nat.zero_le _, ?_⟩
  exact (((((hbb6.setCell (Nat.le_refl _) _).setCell (Nat.le_refl _) _).setCell (Nat.le_refl _) _).setCell (Nat.le_refl _) _).setCell (Nat.le_refl _) _)

set_option maxHeartbeats 4000000 in
theorem open_good_2 (A : Option Addr) (c : Nat) (l : List UInt8) (w : World) (hr : Rd w A l) (hc : l.length ≤ c) (hm : c ≤ maxLen) (hl : l.length = 128) (hz : zeroB l = false) (ht : tagB (frT l) = true) (hn : frN l ≤ 88) (hs : leN (l.drop 124) = sum (l.take 124)) (hz2 : zeroB (frMid l) = true) : Calls Tryd.prog 10 #[.slice A l.length c] w (RetF w 1 (.agg #[.int .i64 (getN (frT l) 0 1), .int .i64 (getN (frT l) 1 1), .int .i64 (getN (frT l) 2 1), .int .i64 (getN (frT l) 3 6), .int .i64 (getN (frT l) 9 6)]) ((l.drop 17).take (frN l))) := by
  have HZ := Lib.hid hz
  have hcm := hm
  unfold maxLen at hcm
  obtain ⟨b, o, rfl, hcl⟩ := hr.at_ (k := 0) (by omega)
  clear hcl
  obtain ⟨x, HX⟩ : ∃ x, Hid (x = frN l) := ⟨_, Lib.hid rfl⟩
  have HE : Hid (getE l 0 2 = 0 ∧ getP l 0 2 = 2 ∧ getN l 0 2 = x) := Lib.hid (by
    have he : getE l 0 2 = 0 := by unfold getE; rw [show isWidth 2 = true from rfl, if_neg (by simp), if_neg (by omega), if_neg (by omega)]
    refine ⟨he, by unfold getP; rw [he, if_pos rfl]; rfl, ?_⟩
    unfold getN
    rw [he, if_pos rfl, HX.out]
    rfl)
  have hx : x < 65536 := by rw [HX.out]; exact leN_take_lt l 0 2
  obtain ⟨u, HU⟩ : ∃ u, Hid (u = leN (l.drop 124)) := ⟨_, Lib.hid rfl⟩
  have HE4 : Hid (getE l 124 4 = 0 ∧ getP l 124 4 = 128 ∧ getN l 124 4 = u) := Lib.hid (by
    have he : getE l 124 4 = 0 := by unfold getE; rw [show isWidth 4 = true from rfl, if_neg (by simp), if_neg (by omega), if_neg (by omega)]
    refine ⟨he, by unfold getP; rw [he, if_pos rfl]; rfl, ?_⟩
    unfold getN
    rw [he, if_pos rfl, HU.out, List.take_of_length_le]
    · rfl
    · simp; omega)
  have hrT : Rd w (some ⟨b, o + 2, none⟩) (frT l) := Rd.cut hr b o 2 15 rfl (by omega)
  have HTl : Hid (15 = (frT l).length) := Lib.hid (by simp [frT]; omega)
  have hc64 : 128 ≤ c := by omega
  have n2 : ¬ c = 2 := by omega
  obtain ⟨f0, F0⟩ : ∃ f, Hid (f = getN (frT l) 0 1) := ⟨_, Lib.hid rfl⟩
  obtain ⟨f1, F1⟩ : ∃ f, Hid (f = getN (frT l) 1 1) := ⟨_, Lib.hid rfl⟩
  obtain ⟨f2, F2⟩ : ∃ f, Hid (f = getN (frT l) 2 1) := ⟨_, Lib.hid rfl⟩
  obtain ⟨f3, F3⟩ : ∃ f, Hid (f = getN (frT l) 3 6) := ⟨_, Lib.hid rfl⟩
  obtain ⟨f4, F4⟩ : ∃ f, Hid (f = getN (frT l) 9 6) := ⟨_, Lib.hid rfl⟩
  have HT : Hid (tagW (frT l) = .agg #[.int .i64 f0, .int .i64 f1, .int .i64 f2, .int .i64 f3, .int .i64 f4] ∧ tagP (frT l) = 0) := Lib.hid (by
    have := tagW_some ht
    rw [← F0.out, ← F1.out, ← F2.out, ← F3.out, ← F4.out] at this
    exact this)
  have hxr : decide ((88 : Int) < x) = false := decide_eq_false (by rw [HX.out]; omega)
  have hxr2 : x ≤ 88 := by rw [HX.out]; exact hn
  obtain ⟨v, HV⟩ : ∃ v, Hid (v = sum (l.take 124)) := ⟨_, Lib.hid rfl⟩
  have hv : v < 4294967296 := by rw [HV.out]; exact sum_lt _
  have HSl : Hid (124 = (l.take 124).length) := Lib.hid (by simp; omega)
  have hne : ((u : Int) != (v : Int)) = false := by rw [bne_eq_false_iff_eq, HU.out, HV.out, hs]
  have hmin : min (x : Int) 88 = x := by omega
  have n17 : ¬ c = 17 + x := by omega
  have hrM : Rd w (some ⟨b, o + (17 + x), none⟩) (frMid l) := by rw [HX.out]; exact Rd.cut hr b o (17 + frN l) (l.length - 4 - (17 + frN l)) rfl (by omega)
  have HMl : Hid (124 - (17 + x) = (frMid l).length) := Lib.hid (by simp [frMid, ← HX.out]; omega)
  rw [← F0.out, ← F1.out, ← F2.out, ← F3.out, ← F4.out]
  obtain ⟨D, HD⟩ : ∃ D, Hid (D = (l.drop 17).take (frN l)) := ⟨_, Lib.hid rfl⟩
  rw [← HD.out]
  have hrD : Rd w (some ⟨b, o + 17, none⟩) D := by rw [HD.out]; exact Rd.cut hr b o 17 (frN l) rfl (by omega)
  have HDl : Hid (x = D.length) := Lib.hid (by rw [HD.out, HX.out]; simp; omega)
  have n117 : ¬ c = 17 := by omega
  have HMZ := Lib.hid hz2
  clear ht hn hs hz2
  have HL : Hid (128 = l.length) := Lib.hid hl.symm
  rw [hl]
  clear hz hl
  go_enter Tryd.func10, Tryd.ntmps10
  go_wp2_with fail
  refine (room_any _ _).mono ?_
  rw [show roomI 2 = 88 from rfl]
  rintro e w1 ⟨rfl, rfl⟩
  go_wp2_with fail
  refine (noughts_any (some ⟨b, o, none⟩) c l 128 _ (hr.alloc _) HL.out hc hm).mono ?_
  rw [HZ.out]
  rintro e w1 ⟨rfl, hb1⟩
  have hbb1 := bac hb1
  have B1 := (Blk.new w 25 #[.int .i64 0, .int .i64 0, .int .i64 0, .int .i64 0, .int .i64 0]).bel hb1
  clear hb1
  go_wp2_with fail
  refine (get_n (some ⟨b, o, none⟩) c l 128 0 2 _ (hr.below hbb1) hc hm HL.out).mono ?_
  rw [HE.out.1, HE.out.2.1, HE.out.2.2]
  rintro e w2 ⟨rfl, hb2⟩
  have hbb2 := bt hbb1 hb2
  have B2 := B1.bel hb2
  clear hb2
  go_wp2_with fail
  refine (tparse_n (some ⟨b, o + 2, none⟩) (c - 2) (frT l) 15 _ (hrT.below hbb2) (by rw [← HTl.out]; omega) (by omega) HTl.out).mono ?_
  rw [HT.out.1, HT.out.2]
  rintro e w3 ⟨rfl, hb3⟩
  have hbb3 := bal (bt hbb2 hb3) (.cells #[.int .i64 f0, .int .i64 f1, .int .i64 f2, .int .i64 f3, .int .i64 f4] 25)
  have B3 := (B2.bel hb3).alloc (.cells #[.int .i64 f0, .int .i64 f1, .int .i64 f2, .int .i64 f3, .int .i64 f4] 25)
  have hlt3 := (B2.bel hb3).lt
  have C3 := Blk.new w3 25 #[.int .i64 f0, .int .i64 f1, .int .i64 f2, .int .i64 f3, .int .i64 f4]
  clear hb3
  go_wp2_with fail
  refine (get_n (some ⟨b, o, none⟩) c l 128 124 4 _ (hr.below hbb3) hc hm HL.out).mono ?_
  rw [HE4.out.1, HE4.out.2.1, HE4.out.2.2]
  rintro e w4 ⟨rfl, hb4⟩
  have hbb4 := bt hbb3 hb4
  have B4 := B3.bel hb4
  have C4 := C3.bel hb4
  clear hb4
  go_wp2_with fail
  refine (room_any _ _).mono ?_
  rw [show roomI 2 = 88 from rfl]
  rintro e w5 ⟨rfl, rfl⟩
  go_wp2_with fail
  refine (sum_any (some ⟨b, o, none⟩) c (l.take 124) 124 _ ((hr.below hbb4).take _) (by rw [← HSl.out]; decide) HSl.out).mono ?_
  rw [← HV.out]
  rintro e w5 ⟨rfl, hb5⟩
  have hbb5 := bt hbb4 hb5
  have B5 := B4.bel hb5
  have C5 := C4.bel hb5
  clear hb5
  go_wp2_with fail
  refine (room_any _ _).mono ?_
  rw [show roomI 2 = 88 from rfl]
  rintro e w5 ⟨rfl, rfl⟩
  go_wp2_with fail
  refine (noughts_any (some ⟨b, o + (17 + x), none⟩) _ (frMid l) _ _ (hrM.below hbb5) HMl.out (by rw [← HMl.out]; omega) (by omega)).mono ?_
  rw [HMZ.out]
  rintro e w6 ⟨rfl, hb6⟩
  have hbb6 := bt hbb5 hb6
  have B6 := B5.bel hb6
  have C6 := C5.bel hb6
  clear hb6
  go_wp2_with fail
  refine (clone_n (some ⟨b, o + 17, none⟩) _ D x _ (hrD.below hbb6) (by rw [← HDl.out]; omega) HDl.out).mono ?_
  rintro e w7 ⟨A7, c7, rfl, hown7, hb7⟩
  have hbb7 := bt hbb6 hb7
  have B7 := B6.bel hb7
  have C7 := C6.bel hb7
  have hcap : x ≤ c7 := by rw [HDl.out]; exact hown7.caps.1
  have hcap2 : c7 ≤ 9223372036854775807 := by have := hown7.caps.2; unfold maxLen at this; exact this
  have hcap3 : (x : Int) ≤ c7 := by omega
  have hlt6 : w.heap.size < w6.heap.size := B6.lt
  have hne0 : w3.heap.size ≠ w.heap.size := by omega
  have hne1 : w.heap.size ≠ w3.heap.size := by omega
  rw [← HDl.out]
  have fz := B7.frozen
  have c0 := B7.c 0 (.int .i64 0) rfl
  have c1 := B7.c 1 (.int .i64 0) rfl
  have c2 := B7.c 2 (.int .i64 0) rfl
  have c3 := B7.c 3 (.int .i64 0) rfl
  have c4 := B7.c 4 (.int .i64 0) rfl
  have d0 := C7.c 0 (.int .i64 f0) rfl
  have d1 := C7.c 1 (.int .i64 f1) rfl
  have d2 := C7.c 2 (.int .i64 f2) rfl
  have d3 := C7.c 3 (.int .i64 f3) rfl
  have d4 := C7.c 4 (.int .i64 f4) rfl
  go_wp2_with fail
  go_region_held3 (fun w' => w'.cell? ⟨w3.heap.size, 0, none⟩ = some (.int .i64 f0) ∧ w'.cell? ⟨w3.heap.size, 1, none⟩ = some (.int .i64 f1) ∧ w'.cell? ⟨w3.heap.size, 2, none⟩ = some (.int .i64 f2) ∧ w'.cell? ⟨w3.heap.size, 3, none⟩ = some (.int .i64 f3) ∧ w'.cell? ⟨w3.heap.size, 4, none⟩ = some (.int .i64 f4)) (go_keep) (first | fail)
  all_goals
    go_wp2_with fail
    refine bodyPost_ret (v := .tuple #[.int .u8 1, .agg #[.int .i64 f0, .int .i64 f1, .int .i64 f2, .int .i64 f3, .int .i64 f4], .slice A7 x x]) (by simp [results, Tryd.results10, go_sem, c0, c1, c2, c3, c4]) rfl ⟨A7, x, by rw [← HDl.out], ?_, by rw [← HDl.out]; exact Nat.le_refl _, by unfold maxLen; omega, ?_⟩
    · exact (((((((hown7.put hlt6 _).put hlt6 _).put hlt6 _).put hlt6 _).put hlt6 _).drew).mono (Nat.le_of_lt hlt6)).mine
    · exact (((((hbb7.setCell (Nat.le_refl _) _).setCell (Nat.le_refl _) _).setCell (Nat.le_refl _) _).setCell (Nat.le_refl _) _).setCell (Nat.le_refl _) _).drew

theorem open_any (A : Option Addr) (c : Nat) (l : List UInt8) (w : World) (hr : Rd w A l) (hc : l.length ≤ c) (hm : c ≤ maxLen) : Calls Tryd.prog 10 #[.slice A l.length c] w (RetF w (frS l) (frV l) (frB l)) := by
  cases h0 : okLen l
  · have hn := okLen_not h0
    have hg : frG l = false := by simp [frG, h0]
    rw [(frV_none hg).1, (frV_none hg).2, show frS l = 2 by simp [frS, h0]]
    exact open_len A c l w (by omega) hn.1 hn.2
  cases hz : zeroB l
  case true =>
    have hg : frG l = false := by simp [frG, hz]
    rw [(frV_none hg).1, (frV_none hg).2, show frS l = 0 by simp [frS, h0, hz]]
    rcases okLen_cases h0 with hl | hl
    · exact open_blank_1 A c l w hr hc hm hl hz
    · exact open_blank_2 A c l w hr hc hm hl hz
  cases hg : frG l
  case true =>
    rw [(frV_some hg).1, (frV_some hg).2, show frS l = 1 by simp [frS, h0, hz, hg]]
    obtain ⟨_, _, p1, p2, p3, p4⟩ := frG_parts hg
    rcases okLen_cases h0 with hl | hl
    · simp [frRoom, hl] at p2
      simp [frSum, hl] at p3
      exact open_good_1 A c l w hr hc hm hl hz p1 p2 p3 p4
    · simp [frRoom, hl] at p2
      simp [frSum, hl] at p3
      exact open_good_2 A c l w hr hc hm hl hz p1 p2 p3 p4
  rw [(frV_none hg).1, (frV_none hg).2, show frS l = 2 by simp [frS, h0, hz, hg]]
  cases h1 : tagB (frT l)
  · rcases okLen_cases h0 with hl | hl
    · exact open_tag_1 A c l w hr hc hm hl hz h1
    · exact open_tag_2 A c l w hr hc hm hl hz h1
  rcases okLen_cases h0 with hl | hl
  · by_cases h2 : frN l ≤ 43
    case neg => exact open_room_1 A c l w hr hc hm hl hz h1 (by omega)
    by_cases h3 : leN (l.drop 60) = sum (l.take 60)
    case neg => exact open_sum_1 A c l w hr hc hm hl hz h1 h2 h3
    have h4 : zeroB (frMid l) = false := by
      cases e : zeroB (frMid l)
      · rfl
      · have : frG l = true := by simp [frG, h0, hz, h1, frRoom, hl, h2, frSum, h3, e]
        rw [this] at hg
        cases hg
    exact open_mid_1 A c l w hr hc hm hl hz h1 h2 h3 h4
  · by_cases h2 : frN l ≤ 88
    case neg => exact open_room_2 A c l w hr hc hm hl hz h1 (by omega)
    by_cases h3 : leN (l.drop 124) = sum (l.take 124)
    case neg => exact open_sum_2 A c l w hr hc hm hl hz h1 h2 h3
    have h4 : zeroB (frMid l) = false := by
      cases e : zeroB (frMid l)
      · rfl
      · have : frG l = true := by simp [frG, h0, hz, h1, frRoom, hl, h2, frSum, h3, e]
        rw [this] at hg
        cases hg
    exact open_mid_2 A c l w hr hc hm hl hz h1 h2 h3 h4
end Go.Proofs.YtahfippapknolaaDoor
