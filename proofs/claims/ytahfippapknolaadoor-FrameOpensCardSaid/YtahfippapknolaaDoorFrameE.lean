/-
  THE WALKS OF Mine, the program's and the reference's. (Printed by genframee.py.)
-/
import Derived.Test.YtahfippapknolaaDoorFrameD
namespace Go.Proofs.YtahfippapknolaaDoor
open Go.RowKit
set_option linter.unusedVariables false

theorem Mine.keep {w w' : World} {base : Nat} {A : Option Addr} {l : List UInt8} (h : Mine w base A l) (hc : ∀ b o, base ≤ b → b < w.heap.size → w'.cell? ⟨b, o, none⟩ = w.cell? ⟨b, o, none⟩) (hf : ∀ b o, base ≤ b → b < w.heap.size → w'.frozen? ⟨b, o, none⟩ = w.frozen? ⟨b, o, none⟩) : Mine w' base A l := by
  refine ⟨fun hn => ?_, fun hn => ?_⟩
  · obtain ⟨b, o, e, hcl⟩ := h.1 hn
    obtain ⟨g, e2, hg, _⟩ := h.2 hn
    rw [e] at e2
    injection e2 with e2
    injection e2 with e3 e4
    subst e3 e4
    refine ⟨b, 0, e, fun i hi => ?_⟩
    rw [hc b _ hg (World.block_lt_of_cell? w _ (hcl i hi))]
    exact hcl i hi
  · obtain ⟨b, o, e, hcl⟩ := h.1 hn
    obtain ⟨g, e2, hg, hfz⟩ := h.2 hn
    have e5 := e2
    rw [e] at e2
    injection e2 with e2
    injection e2 with e3 e4
    subst e3 e4
    refine ⟨b, e5, hg, fun i => ?_⟩
    have h0 : 0 < l.length := List.length_pos_iff.2 hn
    rw [hf b i hg (World.block_lt_of_cell? w _ (hcl 0 h0))]
    exact hfz i
theorem Mine.below {w w' : World} {base : Nat} {A : Option Addr} {l : List UInt8} (h : Mine w base A l) (hb : Below w.heap.size w w') : Mine w' base A l :=
  h.keep (fun b o _ hlt => hb.cell (p := ⟨b, o, none⟩) hlt) (fun b o _ hlt => hb.frozen (p := ⟨b, o, none⟩) hlt)
theorem Mine.alloc {w : World} {base : Nat} {A : Option Addr} {l : List UInt8} (h : Mine w base A l) (o : Obj) : Mine (w.alloc o) base A l := h.below (bal0 w o)
theorem Mine.put {w : World} {base : Nat} {A : Option Addr} {l : List UInt8} (h : Mine w base A l) {p : Addr} (hp : p.block < base) (u : Value) : Mine (w.setCell p u) base A l :=
  h.keep (fun b o hb _ => World.cell?_setCell_other _ _ _ _ (by intro e; rw [e] at hp; simp at hp; omega)) (fun b o hb _ => World.frozen?_setCell _ _ _ _)
theorem Mine.drew {w : World} {base : Nat} {A : Option Addr} {l : List UInt8} (h : Mine w base A l) : Mine w.drew base A l := h
theorem Mine.mono {w : World} {base base' : Nat} {A : Option Addr} {l : List UInt8} (h : Mine w base A l) (hb : base' ≤ base) : Mine w base' A l :=
  ⟨h.1, fun hn => by obtain ⟨g, e, hg, hf⟩ := h.2 hn; exact ⟨g, e, by omega, hf⟩⟩

/-- is a good frame of another replica, region, place? -/
def mnK (l : List UInt8) (rp rg pl : Int) : Bool := decide (frS l = 1) && !(decide (frF l 0 1 = rp) && (decide (frF l 1 1 = rg) && decide (frF l 2 1 = pl)))
def mnS (l : List UInt8) (rp rg pl : Int) : Int := if mnK l rp rg pl then 2 else frS l
def mnV (l : List UInt8) (rp rg pl : Int) : Value := if mnK l rp rg pl then .agg #[.int .i64 0, .int .i64 0, .int .i64 0, .int .i64 0, .int .i64 0] else frV l
def mnB (l : List UInt8) (rp rg pl : Int) : List UInt8 := if mnK l rp rg pl then [] else frB l

set_option maxHeartbeats 1000000 in
theorem mine_pass (A : Option Addr) (c : Nat) (l : List UInt8) (rp rg pl : Int) (w : World) (hr : Rd w A l) (hc : l.length ≤ c) (hm : c ≤ maxLen) (S v0 v1 v2 v3 v4 : Int) (D : List UInt8) (HS : Hid (frS l = S)) (HV : Hid (frV l = .agg #[.int .i64 v0, .int .i64 v1, .int .i64 v2, .int .i64 v3, .int .i64 v4])) (HD : Hid (frB l = D)) (h1 : (S == 1) = false) : Calls Tryd.prog 13 #[.slice A l.length c, .int .i64 rp, .int .i64 rg, .int .i64 pl] w (RetF w S (.agg #[.int .i64 v0, .int .i64 v1, .int .i64 v2, .int .i64 v3, .int .i64 v4]) D) := by
  go_enter Tryd.func13, Tryd.ntmps13
  go_wp2_with fail
  refine (open_any A c l _ (hr.alloc _) hc hm).mono ?_
  rw [HS.out, HV.out, HD.out]
  rintro e w1 ⟨A1, c1, rfl, hmine1, hl1, hm1, hb1⟩
  have hbb1 : Below w.heap.size w (w1.alloc (.cells #[.int .i64 v0, .int .i64 v1, .int .i64 v2, .int .i64 v3, .int .i64 v4] 25)) := (bt (bal0 w (.cells #[.int .i64 0, .int .i64 0, .int .i64 0, .int .i64 0, .int .i64 0] 25)) hb1).alloc (by have := hb1.size; simp at this; omega) _
  have B1 := ((Blk.new w 25 #[.int .i64 0, .int .i64 0, .int .i64 0, .int .i64 0, .int .i64 0]).bel hb1).alloc (.cells #[.int .i64 v0, .int .i64 v1, .int .i64 v2, .int .i64 v3, .int .i64 v4] 25)
  have C1 := Blk.new w1 25 #[.int .i64 v0, .int .i64 v1, .int .i64 v2, .int .i64 v3, .int .i64 v4]
  have hlt1 : w.heap.size < w1.heap.size := ((Blk.new w 25 #[.int .i64 0, .int .i64 0, .int .i64 0, .int .i64 0, .int .i64 0]).bel hb1).lt
  have hmine2 := (hmine1.alloc (.cells #[.int .i64 v0, .int .i64 v1, .int .i64 v2, .int .i64 v3, .int .i64 v4] 25))
  have hlt0 : w.heap.size < (w.alloc (.cells #[.int .i64 0, .int .i64 0, .int .i64 0, .int .i64 0, .int .i64 0] 25)).heap.size := by simp
  have hne0 : w1.heap.size ≠ w.heap.size := by omega
  have hne1 : w.heap.size ≠ w1.heap.size := by omega
  clear hb1 hmine1
  go_wp2_with fail
  generalize w1.alloc (.cells #[.int .i64 v0, .int .i64 v1, .int .i64 v2, .int .i64 v3, .int .i64 v4] 25) = W2 at B1 C1 hbb1 hmine2 ⊢
  have fz := B1.frozen
  have c0_ := B1.c 0 (.int .i64 0) rfl
  have c1_ := B1.c 1 (.int .i64 0) rfl
  have c2_ := B1.c 2 (.int .i64 0) rfl
  have c3_ := B1.c 3 (.int .i64 0) rfl
  have c4_ := B1.c 4 (.int .i64 0) rfl
  have d0 := C1.c 0 (.int .i64 v0) rfl
  have d1 := C1.c 1 (.int .i64 v1) rfl
  have d2 := C1.c 2 (.int .i64 v2) rfl
  have d3 := C1.c 3 (.int .i64 v3) rfl
  have d4 := C1.c 4 (.int .i64 v4) rfl
  go_region_held3 (fun w' => w'.cell? ⟨w1.heap.size, 0, none⟩ = some (.int .i64 v0) ∧ w'.cell? ⟨w1.heap.size, 1, none⟩ = some (.int .i64 v1) ∧ w'.cell? ⟨w1.heap.size, 2, none⟩ = some (.int .i64 v2) ∧ w'.cell? ⟨w1.heap.size, 3, none⟩ = some (.int .i64 v3) ∧ w'.cell? ⟨w1.heap.size, 4, none⟩ = some (.int .i64 v4)) (go_keep) (first | fail)
  all_goals
    go_wp2_with fail
    refine bodyPost_ret (v := .tuple #[.int .u8 S, .agg #[.int .i64 v0, .int .i64 v1, .int .i64 v2, .int .i64 v3, .int .i64 v4], .slice A1 D.length c1]) (by simp [results, Tryd.results13, go_sem, c0_, c1_, c2_, c3_, c4_]) rfl ⟨A1, c1, rfl, ?_, hl1, hm1, ?_⟩
    · exact ((((((hmine2.put hlt0 _).put hlt0 _).put hlt0 _).put hlt0 _).put hlt0 _).drew).mono (Nat.le_of_lt hlt0)
    · exact ((((((hbb1).setCell (Nat.le_refl _) _).setCell (Nat.le_refl _) _).setCell (Nat.le_refl _) _).setCell (Nat.le_refl _) _).setCell (Nat.le_refl _) _).drew

set_option maxHeartbeats 1000000 in
theorem mine_own (A : Option Addr) (c : Nat) (l : List UInt8) (w : World) (hr : Rd w A l) (hc : l.length ≤ c) (hm : c ≤ maxLen) (v0 v1 v2 v3 v4 : Int) (D : List UInt8) (HS : Hid (frS l = 1)) (HV : Hid (frV l = .agg #[.int .i64 v0, .int .i64 v1, .int .i64 v2, .int .i64 v3, .int .i64 v4])) (HD : Hid (frB l = D)) : Calls Tryd.prog 13 #[.slice A l.length c, .int .i64 v0, .int .i64 v1, .int .i64 v2] w (RetF w 1 (.agg #[.int .i64 v0, .int .i64 v1, .int .i64 v2, .int .i64 v3, .int .i64 v4]) D) := by
  go_enter Tryd.func13, Tryd.ntmps13
  go_wp2_with fail
  refine (open_any A c l _ (hr.alloc _) hc hm).mono ?_
  rw [HS.out, HV.out, HD.out]
  rintro e w1 ⟨A1, c1, rfl, hmine1, hl1, hm1, hb1⟩
  have hbb1 : Below w.heap.size w (w1.alloc (.cells #[.int .i64 v0, .int .i64 v1, .int .i64 v2, .int .i64 v3, .int .i64 v4] 25)) := (bt (bal0 w (.cells #[.int .i64 0, .int .i64 0, .int .i64 0, .int .i64 0, .int .i64 0] 25)) hb1).alloc (by have := hb1.size; simp at this; omega) _
  have B1 := ((Blk.new w 25 #[.int .i64 0, .int .i64 0, .int .i64 0, .int .i64 0, .int .i64 0]).bel hb1).alloc (.cells #[.int .i64 v0, .int .i64 v1, .int .i64 v2, .int .i64 v3, .int .i64 v4] 25)
  have C1 := Blk.new w1 25 #[.int .i64 v0, .int .i64 v1, .int .i64 v2, .int .i64 v3, .int .i64 v4]
  have hlt1 : w.heap.size < w1.heap.size := ((Blk.new w 25 #[.int .i64 0, .int .i64 0, .int .i64 0, .int .i64 0, .int .i64 0]).bel hb1).lt
  have hmine2 := (hmine1.alloc (.cells #[.int .i64 v0, .int .i64 v1, .int .i64 v2, .int .i64 v3, .int .i64 v4] 25))
  have hlt0 : w.heap.size < (w.alloc (.cells #[.int .i64 0, .int .i64 0, .int .i64 0, .int .i64 0, .int .i64 0] 25)).heap.size := by simp
  have hne0 : w1.heap.size ≠ w.heap.size := by omega
  have hne1 : w.heap.size ≠ w1.heap.size := by omega
  clear hb1 hmine1
  go_wp2_with fail
  generalize w1.alloc (.cells #[.int .i64 v0, .int .i64 v1, .int .i64 v2, .int .i64 v3, .int .i64 v4] 25) = W2 at B1 C1 hbb1 hmine2 ⊢
  have fz := B1.frozen
  have c0_ := B1.c 0 (.int .i64 0) rfl
  have c1_ := B1.c 1 (.int .i64 0) rfl
  have c2_ := B1.c 2 (.int .i64 0) rfl
  have c3_ := B1.c 3 (.int .i64 0) rfl
  have c4_ := B1.c 4 (.int .i64 0) rfl
  have d0 := C1.c 0 (.int .i64 v0) rfl
  have d1 := C1.c 1 (.int .i64 v1) rfl
  have d2 := C1.c 2 (.int .i64 v2) rfl
  have d3 := C1.c 3 (.int .i64 v3) rfl
  have d4 := C1.c 4 (.int .i64 v4) rfl
  go_region_held3 (fun w' => w'.cell? ⟨w1.heap.size, 0, none⟩ = some (.int .i64 v0) ∧ w'.cell? ⟨w1.heap.size, 1, none⟩ = some (.int .i64 v1) ∧ w'.cell? ⟨w1.heap.size, 2, none⟩ = some (.int .i64 v2) ∧ w'.cell? ⟨w1.heap.size, 3, none⟩ = some (.int .i64 v3) ∧ w'.cell? ⟨w1.heap.size, 4, none⟩ = some (.int .i64 v4)) (go_keep) (first | fail)
  all_goals
    go_wp2_with fail
    refine bodyPost_ret (v := .tuple #[.int .u8 1, .agg #[.int .i64 v0, .int .i64 v1, .int .i64 v2, .int .i64 v3, .int .i64 v4], .slice A1 D.length c1]) (by simp [results, Tryd.results13, go_sem, c0_, c1_, c2_, c3_, c4_]) rfl ⟨A1, c1, rfl, ?_, hl1, hm1, ?_⟩
    · exact ((((((hmine2.put hlt0 _).put hlt0 _).put hlt0 _).put hlt0 _).put hlt0 _).drew).mono (Nat.le_of_lt hlt0)
    · exact ((((((hbb1).setCell (Nat.le_refl _) _).setCell (Nat.le_refl _) _).setCell (Nat.le_refl _) _).setCell (Nat.le_refl _) _).setCell (Nat.le_refl _) _).drew

set_option maxHeartbeats 1000000 in
theorem mine_far0 (A : Option Addr) (c : Nat) (l : List UInt8) (rp rg pl : Int) (w : World) (hr : Rd w A l) (hc : l.length ≤ c) (hm : c ≤ maxLen) (v0 v1 v2 v3 v4 : Int) (D : List UInt8) (HS : Hid (frS l = 1)) (HV : Hid (frV l = .agg #[.int .i64 v0, .int .i64 v1, .int .i64 v2, .int .i64 v3, .int .i64 v4])) (HD : Hid (frB l = D)) (h : v0 ≠ rp) : Calls Tryd.prog 13 #[.slice A l.length c, .int .i64 rp, .int .i64 rg, .int .i64 pl] w (RetF w 2 (.agg #[.int .i64 0, .int .i64 0, .int .i64 0, .int .i64 0, .int .i64 0]) []) := by
  have g0 : (v0 != rp) = true := by rw [bne_iff_ne]; exact h
  clear h
  go_enter Tryd.func13, Tryd.ntmps13
  go_wp2_with fail
  refine (open_any A c l _ (hr.alloc _) hc hm).mono ?_
  rw [HS.out, HV.out, HD.out]
  rintro e w1 ⟨A1, c1, rfl, hmine1, hl1, hm1, hb1⟩
  have hbb1 : Below w.heap.size w (w1.alloc (.cells #[.int .i64 v0, .int .i64 v1, .int .i64 v2, .int .i64 v3, .int .i64 v4] 25)) := (bt (bal0 w (.cells #[.int .i64 0, .int .i64 0, .int .i64 0, .int .i64 0, .int .i64 0] 25)) hb1).alloc (by have := hb1.size; simp at this; omega) _
  have B1 := ((Blk.new w 25 #[.int .i64 0, .int .i64 0, .int .i64 0, .int .i64 0, .int .i64 0]).bel hb1).alloc (.cells #[.int .i64 v0, .int .i64 v1, .int .i64 v2, .int .i64 v3, .int .i64 v4] 25)
  have C1 := Blk.new w1 25 #[.int .i64 v0, .int .i64 v1, .int .i64 v2, .int .i64 v3, .int .i64 v4]
  have hlt1 : w.heap.size < w1.heap.size := ((Blk.new w 25 #[.int .i64 0, .int .i64 0, .int .i64 0, .int .i64 0, .int .i64 0]).bel hb1).lt
  have hmine2 := (hmine1.alloc (.cells #[.int .i64 v0, .int .i64 v1, .int .i64 v2, .int .i64 v3, .int .i64 v4] 25))
  have hlt0 : w.heap.size < (w.alloc (.cells #[.int .i64 0, .int .i64 0, .int .i64 0, .int .i64 0, .int .i64 0] 25)).heap.size := by simp
  have hne0 : w1.heap.size ≠ w.heap.size := by omega
  have hne1 : w.heap.size ≠ w1.heap.size := by omega
  clear hb1 hmine1
  clear hlt1 hne0 hne1
  have fz := B1.frozen
  have c0_ := B1.c 0 (.int .i64 0) rfl
  have c1_ := B1.c 1 (.int .i64 0) rfl
  have c2_ := B1.c 2 (.int .i64 0) rfl
  have c3_ := B1.c 3 (.int .i64 0) rfl
  have c4_ := B1.c 4 (.int .i64 0) rfl
  have d0 := C1.c 0 (.int .i64 v0) rfl
  have d1 := C1.c 1 (.int .i64 v1) rfl
  have d2 := C1.c 2 (.int .i64 v2) rfl
  have d3 := C1.c 3 (.int .i64 v3) rfl
  have d4 := C1.c 4 (.int .i64 v4) rfl
  go_wp2_with fail
  refine bodyPost_ret (v := .tuple #[.int .u8 2, .agg #[.int .i64 0, .int .i64 0, .int .i64 0, .int .i64 0, .int .i64 0], .slice none 0 0]) (by simp [results, Tryd.results13, go_sem, c0_, c1_, c2_, c3_, c4_]) rfl ⟨none, 0, rfl, Mine.nil _ _ _, Nat.le_refl _, Nat.zero_le _, ?_⟩
  exact ((((((hbb1).setCell (Nat.le_refl _) _).setCell (Nat.le_refl _) _).setCell (Nat.le_refl _) _).setCell (Nat.le_refl _) _).setCell (Nat.le_refl _) _)

set_option maxHeartbeats 1000000 in
theorem mine_far1 (A : Option Addr) (c : Nat) (l : List UInt8) (rp rg pl : Int) (w : World) (hr : Rd w A l) (hc : l.length ≤ c) (hm : c ≤ maxLen) (v0 v1 v2 v3 v4 : Int) (D : List UInt8) (HS : Hid (frS l = 1)) (HV : Hid (frV l = .agg #[.int .i64 v0, .int .i64 v1, .int .i64 v2, .int .i64 v3, .int .i64 v4])) (HD : Hid (frB l = D)) (e0 : v0 = rp) (h : v1 ≠ rg) : Calls Tryd.prog 13 #[.slice A l.length c, .int .i64 rp, .int .i64 rg, .int .i64 pl] w (RetF w 2 (.agg #[.int .i64 0, .int .i64 0, .int .i64 0, .int .i64 0, .int .i64 0]) []) := by
  subst e0
  have g0 : (v1 != rg) = true := by rw [bne_iff_ne]; exact h
  clear h
  go_enter Tryd.func13, Tryd.ntmps13
  go_wp2_with fail
  refine (open_any A c l _ (hr.alloc _) hc hm).mono ?_
  rw [HS.out, HV.out, HD.out]
  rintro e w1 ⟨A1, c1, rfl, hmine1, hl1, hm1, hb1⟩
  have hbb1 : Below w.heap.size w (w1.alloc (.cells #[.int .i64 v0, .int .i64 v1, .int .i64 v2, .int .i64 v3, .int .i64 v4] 25)) := (bt (bal0 w (.cells #[.int .i64 0, .int .i64 0, .int .i64 0, .int .i64 0, .int .i64 0] 25)) hb1).alloc (by have := hb1.size; simp at this; omega) _
  have B1 := ((Blk.new w 25 #[.int .i64 0, .int .i64 0, .int .i64 0, .int .i64 0, .int .i64 0]).bel hb1).alloc (.cells #[.int .i64 v0, .int .i64 v1, .int .i64 v2, .int .i64 v3, .int .i64 v4] 25)
  have C1 := Blk.new w1 25 #[.int .i64 v0, .int .i64 v1, .int .i64 v2, .int .i64 v3, .int .i64 v4]
  have hlt1 : w.heap.size < w1.heap.size := ((Blk.new w 25 #[.int .i64 0, .int .i64 0, .int .i64 0, .int .i64 0, .int .i64 0]).bel hb1).lt
  have hmine2 := (hmine1.alloc (.cells #[.int .i64 v0, .int .i64 v1, .int .i64 v2, .int .i64 v3, .int .i64 v4] 25))
  have hlt0 : w.heap.size < (w.alloc (.cells #[.int .i64 0, .int .i64 0, .int .i64 0, .int .i64 0, .int .i64 0] 25)).heap.size := by simp
  have hne0 : w1.heap.size ≠ w.heap.size := by omega
  have hne1 : w.heap.size ≠ w1.heap.size := by omega
  clear hb1 hmine1
  clear hlt1 hne0 hne1
  have fz := B1.frozen
  have c0_ := B1.c 0 (.int .i64 0) rfl
  have c1_ := B1.c 1 (.int .i64 0) rfl
  have c2_ := B1.c 2 (.int .i64 0) rfl
  have c3_ := B1.c 3 (.int .i64 0) rfl
  have c4_ := B1.c 4 (.int .i64 0) rfl
  have d0 := C1.c 0 (.int .i64 v0) rfl
  have d1 := C1.c 1 (.int .i64 v1) rfl
  have d2 := C1.c 2 (.int .i64 v2) rfl
  have d3 := C1.c 3 (.int .i64 v3) rfl
  have d4 := C1.c 4 (.int .i64 v4) rfl
  go_wp2_with fail
  refine bodyPost_ret (v := .tuple #[.int .u8 2, .agg #[.int .i64 0, .int .i64 0, .int .i64 0, .int .i64 0, .int .i64 0], .slice none 0 0]) (by simp [results, Tryd.results13, go_sem, c0_, c1_, c2_, c3_, c4_]) rfl ⟨none, 0, rfl, Mine.nil _ _ _, Nat.le_refl _, Nat.zero_le _, ?_⟩
  exact ((((((hbb1).setCell (Nat.le_refl _) _).setCell (Nat.le_refl _) _).setCell (Nat.le_refl _) _).setCell (Nat.le_refl _) _).setCell (Nat.le_refl _) _)

set_option maxHeartbeats 1000000 in
theorem mine_far2 (A : Option Addr) (c : Nat) (l : List UInt8) (rp rg pl : Int) (w : World) (hr : Rd w A l) (hc : l.length ≤ c) (hm : c ≤ maxLen) (v0 v1 v2 v3 v4 : Int) (D : List UInt8) (HS : Hid (frS l = 1)) (HV : Hid (frV l = .agg #[.int .i64 v0, .int .i64 v1, .int .i64 v2, .int .i64 v3, .int .i64 v4])) (HD : Hid (frB l = D)) (e0 : v0 = rp) (e1 : v1 = rg) (h : v2 ≠ pl) : Calls Tryd.prog 13 #[.slice A l.length c, .int .i64 rp, .int .i64 rg, .int .i64 pl] w (RetF w 2 (.agg #[.int .i64 0, .int .i64 0, .int .i64 0, .int .i64 0, .int .i64 0]) []) := by
  subst e0 e1
  have g0 : (v2 != pl) = true := by rw [bne_iff_ne]; exact h
  clear h
  go_enter Tryd.func13, Tryd.ntmps13
  go_wp2_with fail
  refine (open_any A c l _ (hr.alloc _) hc hm).mono ?_
  rw [HS.out, HV.out, HD.out]
  rintro e w1 ⟨A1, c1, rfl, hmine1, hl1, hm1, hb1⟩
  have hbb1 : Below w.heap.size w (w1.alloc (.cells #[.int .i64 v0, .int .i64 v1, .int .i64 v2, .int .i64 v3, .int .i64 v4] 25)) := (bt (bal0 w (.cells #[.int .i64 0, .int .i64 0, .int .i64 0, .int .i64 0, .int .i64 0] 25)) hb1).alloc (by have := hb1.size; simp at this; omega) _
  have B1 := ((Blk.new w 25 #[.int .i64 0, .int .i64 0, .int .i64 0, .int .i64 0, .int .i64 0]).bel hb1).alloc (.cells #[.int .i64 v0, .int .i64 v1, .int .i64 v2, .int .i64 v3, .int .i64 v4] 25)
  have C1 := Blk.new w1 25 #[.int .i64 v0, .int .i64 v1, .int .i64 v2, .int .i64 v3, .int .i64 v4]
  have hlt1 : w.heap.size < w1.heap.size := ((Blk.new w 25 #[.int .i64 0, .int .i64 0, .int .i64 0, .int .i64 0, .int .i64 0]).bel hb1).lt
  have hmine2 := (hmine1.alloc (.cells #[.int .i64 v0, .int .i64 v1, .int .i64 v2, .int .i64 v3, .int .i64 v4] 25))
  have hlt0 : w.heap.size < (w.alloc (.cells #[.int .i64 0, .int .i64 0, .int .i64 0, .int .i64 0, .int .i64 0] 25)).heap.size := by simp
  have hne0 : w1.heap.size ≠ w.heap.size := by omega
  have hne1 : w.heap.size ≠ w1.heap.size := by omega
  clear hb1 hmine1
  clear hlt1 hne0 hne1
  have fz := B1.frozen
  have c0_ := B1.c 0 (.int .i64 0) rfl
  have c1_ := B1.c 1 (.int .i64 0) rfl
  have c2_ := B1.c 2 (.int .i64 0) rfl
  have c3_ := B1.c 3 (.int .i64 0) rfl
  have c4_ := B1.c 4 (.int .i64 0) rfl
  have d0 := C1.c 0 (.int .i64 v0) rfl
  have d1 := C1.c 1 (.int .i64 v1) rfl
  have d2 := C1.c 2 (.int .i64 v2) rfl
  have d3 := C1.c 3 (.int .i64 v3) rfl
  have d4 := C1.c 4 (.int .i64 v4) rfl
  go_wp2_with fail
  refine bodyPost_ret (v := .tuple #[.int .u8 2, .agg #[.int .i64 0, .int .i64 0, .int .i64 0, .int .i64 0, .int .i64 0], .slice none 0 0]) (by simp [results, Tryd.results13, go_sem, c0_, c1_, c2_, c3_, c4_]) rfl ⟨none, 0, rfl, Mine.nil _ _ _, Nat.le_refl _, Nat.zero_le _, ?_⟩
  exact ((((((hbb1).setCell (Nat.le_refl _) _).setCell (Nat.le_refl _) _).setCell (Nat.le_refl _) _).setCell (Nat.le_refl _) _).setCell (Nat.le_refl _) _)

theorem mine_any (A : Option Addr) (c : Nat) (l : List UInt8) (rp rg pl : Int) (w : World) (hr : Rd w A l) (hc : l.length ≤ c) (hm : c ≤ maxLen) : Calls Tryd.prog 13 #[.slice A l.length c, .int .i64 rp, .int .i64 rg, .int .i64 pl] w (RetF w (mnS l rp rg pl) (mnV l rp rg pl) (mnB l rp rg pl)) := by
  have hV : frV l = .agg #[.int .i64 (frF l 0 1), .int .i64 (frF l 1 1), .int .i64 (frF l 2 1), .int .i64 (frF l 3 6), .int .i64 (frF l 9 6)] := rfl
  by_cases hS : frS l = 1
  · by_cases h0 : frF l 0 1 = rp
    · by_cases h1 : frF l 1 1 = rg
      · by_cases h2 : frF l 2 1 = pl
        · have e : mnK l rp rg pl = false := by simp [mnK, h0, h1, h2]
          simp only [mnS, mnV, mnB, e, Bool.false_eq_true, if_false]
          have := mine_own A c l w hr hc hm _ _ _ _ _ _ (Lib.hid hS) (Lib.hid hV) (Lib.hid rfl)
          rw [h0, h1, h2, ← hS] at this
          rw [hV, h0, h1, h2]
          exact this
        · have e : mnK l rp rg pl = true := by simp [mnK, hS, h2]
          simp only [mnS, mnV, mnB, e, if_true]
          exact mine_far2 A c l rp rg pl w hr hc hm _ _ _ _ _ _ (Lib.hid hS) (Lib.hid hV) (Lib.hid rfl) h0 h1 h2
      · have e : mnK l rp rg pl = true := by simp [mnK, hS, h1]
        simp only [mnS, mnV, mnB, e, if_true]
        exact mine_far1 A c l rp rg pl w hr hc hm _ _ _ _ _ _ (Lib.hid hS) (Lib.hid hV) (Lib.hid rfl) h0 h1
    · have e : mnK l rp rg pl = true := by simp [mnK, hS, h0]
      simp only [mnS, mnV, mnB, e, if_true]
      exact mine_far0 A c l rp rg pl w hr hc hm _ _ _ _ _ _ (Lib.hid hS) (Lib.hid hV) (Lib.hid rfl) h0
  · have e : mnK l rp rg pl = false := by simp [mnK, hS]
    simp only [mnS, mnV, mnB, e, Bool.false_eq_true, if_false]
    rw [hV]
    exact mine_pass A c l rp rg pl w hr hc hm _ _ _ _ _ _ _ (Lib.hid rfl) (Lib.hid hV) (Lib.hid rfl) (by rw [beq_eq_false_iff_ne]; exact hS)

set_option maxHeartbeats 1000000 in
theorem rmine_pass (A : Option Addr) (c : Nat) (l : List UInt8) (rp rg pl : Int) (w : World) (hr : Rd w A l) (hc : l.length ≤ c) (hm : c ≤ maxLen) (S v0 v1 v2 v3 v4 : Int) (D : List UInt8) (HS : Hid (frS l = S)) (HV : Hid (frV l = .agg #[.int .i64 v0, .int .i64 v1, .int .i64 v2, .int .i64 v3, .int .i64 v4])) (HD : Hid (frB l = D)) (h1 : (S == 1) = false) : Calls Tryd.prog 14 #[.slice A l.length c, .int .i64 rp, .int .i64 rg, .int .i64 pl] w (RetF w S (.agg #[.int .i64 v0, .int .i64 v1, .int .i64 v2, .int .i64 v3, .int .i64 v4]) D) := by
  go_enter Tryd.func14, Tryd.ntmps14
  go_wp2_with fail
  refine (ropen_any A c l _ (hr.alloc _) hc hm).mono ?_
  rw [HS.out, HV.out, HD.out]
  rintro e w1 ⟨A1, c1, rfl, hmine1, hl1, hm1, hb1⟩
  have hbb1 : Below w.heap.size w (w1.alloc (.cells #[.int .i64 v0, .int .i64 v1, .int .i64 v2, .int .i64 v3, .int .i64 v4] 25)) := (bt (bal0 w (.cells #[.int .i64 0, .int .i64 0, .int .i64 0, .int .i64 0, .int .i64 0] 25)) hb1).alloc (by have := hb1.size; simp at this; omega) _
  have B1 := ((Blk.new w 25 #[.int .i64 0, .int .i64 0, .int .i64 0, .int .i64 0, .int .i64 0]).bel hb1).alloc (.cells #[.int .i64 v0, .int .i64 v1, .int .i64 v2, .int .i64 v3, .int .i64 v4] 25)
  have C1 := Blk.new w1 25 #[.int .i64 v0, .int .i64 v1, .int .i64 v2, .int .i64 v3, .int .i64 v4]
  have hlt1 : w.heap.size < w1.heap.size := ((Blk.new w 25 #[.int .i64 0, .int .i64 0, .int .i64 0, .int .i64 0, .int .i64 0]).bel hb1).lt
  have hmine2 := (hmine1.alloc (.cells #[.int .i64 v0, .int .i64 v1, .int .i64 v2, .int .i64 v3, .int .i64 v4] 25))
  have hlt0 : w.heap.size < (w.alloc (.cells #[.int .i64 0, .int .i64 0, .int .i64 0, .int .i64 0, .int .i64 0] 25)).heap.size := by simp
  have hne0 : w1.heap.size ≠ w.heap.size := by omega
  have hne1 : w.heap.size ≠ w1.heap.size := by omega
  clear hb1 hmine1
  go_wp2_with fail
  generalize w1.alloc (.cells #[.int .i64 v0, .int .i64 v1, .int .i64 v2, .int .i64 v3, .int .i64 v4] 25) = W2 at B1 C1 hbb1 hmine2 ⊢
  have fz := B1.frozen
  have c0_ := B1.c 0 (.int .i64 0) rfl
  have c1_ := B1.c 1 (.int .i64 0) rfl
  have c2_ := B1.c 2 (.int .i64 0) rfl
  have c3_ := B1.c 3 (.int .i64 0) rfl
  have c4_ := B1.c 4 (.int .i64 0) rfl
  have d0 := C1.c 0 (.int .i64 v0) rfl
  have d1 := C1.c 1 (.int .i64 v1) rfl
  have d2 := C1.c 2 (.int .i64 v2) rfl
  have d3 := C1.c 3 (.int .i64 v3) rfl
  have d4 := C1.c 4 (.int .i64 v4) rfl
  go_region_held3 (fun w' => w'.cell? ⟨w1.heap.size, 0, none⟩ = some (.int .i64 v0) ∧ w'.cell? ⟨w1.heap.size, 1, none⟩ = some (.int .i64 v1) ∧ w'.cell? ⟨w1.heap.size, 2, none⟩ = some (.int .i64 v2) ∧ w'.cell? ⟨w1.heap.size, 3, none⟩ = some (.int .i64 v3) ∧ w'.cell? ⟨w1.heap.size, 4, none⟩ = some (.int .i64 v4)) (go_keep) (first | fail)
  all_goals
    go_wp2_with fail
    refine bodyPost_ret (v := .tuple #[.int .u8 S, .agg #[.int .i64 v0, .int .i64 v1, .int .i64 v2, .int .i64 v3, .int .i64 v4], .slice A1 D.length c1]) (by simp [results, Tryd.results14, go_sem, c0_, c1_, c2_, c3_, c4_]) rfl ⟨A1, c1, rfl, ?_, hl1, hm1, ?_⟩
    · exact ((((((hmine2.put hlt0 _).put hlt0 _).put hlt0 _).put hlt0 _).put hlt0 _).drew).mono (Nat.le_of_lt hlt0)
    · exact ((((((hbb1).setCell (Nat.le_refl _) _).setCell (Nat.le_refl _) _).setCell (Nat.le_refl _) _).setCell (Nat.le_refl _) _).setCell (Nat.le_refl _) _).drew

set_option maxHeartbeats 1000000 in
theorem rmine_own (A : Option Addr) (c : Nat) (l : List UInt8) (w : World) (hr : Rd w A l) (hc : l.length ≤ c) (hm : c ≤ maxLen) (v0 v1 v2 v3 v4 : Int) (D : List UInt8) (HS : Hid (frS l = 1)) (HV : Hid (frV l = .agg #[.int .i64 v0, .int .i64 v1, .int .i64 v2, .int .i64 v3, .int .i64 v4])) (HD : Hid (frB l = D)) : Calls Tryd.prog 14 #[.slice A l.length c, .int .i64 v0, .int .i64 v1, .int .i64 v2] w (RetF w 1 (.agg #[.int .i64 v0, .int .i64 v1, .int .i64 v2, .int .i64 v3, .int .i64 v4]) D) := by
  go_enter Tryd.func14, Tryd.ntmps14
  go_wp2_with fail
  refine (ropen_any A c l _ (hr.alloc _) hc hm).mono ?_
  rw [HS.out, HV.out, HD.out]
  rintro e w1 ⟨A1, c1, rfl, hmine1, hl1, hm1, hb1⟩
  have hbb1 : Below w.heap.size w (w1.alloc (.cells #[.int .i64 v0, .int .i64 v1, .int .i64 v2, .int .i64 v3, .int .i64 v4] 25)) := (bt (bal0 w (.cells #[.int .i64 0, .int .i64 0, .int .i64 0, .int .i64 0, .int .i64 0] 25)) hb1).alloc (by have := hb1.size; simp at this; omega) _
  have B1 := ((Blk.new w 25 #[.int .i64 0, .int .i64 0, .int .i64 0, .int .i64 0, .int .i64 0]).bel hb1).alloc (.cells #[.int .i64 v0, .int .i64 v1, .int .i64 v2, .int .i64 v3, .int .i64 v4] 25)
  have C1 := Blk.new w1 25 #[.int .i64 v0, .int .i64 v1, .int .i64 v2, .int .i64 v3, .int .i64 v4]
  have hlt1 : w.heap.size < w1.heap.size := ((Blk.new w 25 #[.int .i64 0, .int .i64 0, .int .i64 0, .int .i64 0, .int .i64 0]).bel hb1).lt
  have hmine2 := (hmine1.alloc (.cells #[.int .i64 v0, .int .i64 v1, .int .i64 v2, .int .i64 v3, .int .i64 v4] 25))
  have hlt0 : w.heap.size < (w.alloc (.cells #[.int .i64 0, .int .i64 0, .int .i64 0, .int .i64 0, .int .i64 0] 25)).heap.size := by simp
  have hne0 : w1.heap.size ≠ w.heap.size := by omega
  have hne1 : w.heap.size ≠ w1.heap.size := by omega
  clear hb1 hmine1
  go_wp2_with fail
  generalize w1.alloc (.cells #[.int .i64 v0, .int .i64 v1, .int .i64 v2, .int .i64 v3, .int .i64 v4] 25) = W2 at B1 C1 hbb1 hmine2 ⊢
  have fz := B1.frozen
  have c0_ := B1.c 0 (.int .i64 0) rfl
  have c1_ := B1.c 1 (.int .i64 0) rfl
  have c2_ := B1.c 2 (.int .i64 0) rfl
  have c3_ := B1.c 3 (.int .i64 0) rfl
  have c4_ := B1.c 4 (.int .i64 0) rfl
  have d0 := C1.c 0 (.int .i64 v0) rfl
  have d1 := C1.c 1 (.int .i64 v1) rfl
  have d2 := C1.c 2 (.int .i64 v2) rfl
  have d3 := C1.c 3 (.int .i64 v3) rfl
  have d4 := C1.c 4 (.int .i64 v4) rfl
  go_region_held3 (fun w' => w'.cell? ⟨w1.heap.size, 0, none⟩ = some (.int .i64 v0) ∧ w'.cell? ⟨w1.heap.size, 1, none⟩ = some (.int .i64 v1) ∧ w'.cell? ⟨w1.heap.size, 2, none⟩ = some (.int .i64 v2) ∧ w'.cell? ⟨w1.heap.size, 3, none⟩ = some (.int .i64 v3) ∧ w'.cell? ⟨w1.heap.size, 4, none⟩ = some (.int .i64 v4)) (go_keep) (first | fail)
  all_goals
    go_wp2_with fail
    refine bodyPost_ret (v := .tuple #[.int .u8 1, .agg #[.int .i64 v0, .int .i64 v1, .int .i64 v2, .int .i64 v3, .int .i64 v4], .slice A1 D.length c1]) (by simp [results, Tryd.results14, go_sem, c0_, c1_, c2_, c3_, c4_]) rfl ⟨A1, c1, rfl, ?_, hl1, hm1, ?_⟩
    · exact ((((((hmine2.put hlt0 _).put hlt0 _).put hlt0 _).put hlt0 _).put hlt0 _).drew).mono (Nat.le_of_lt hlt0)
    · exact ((((((hbb1).setCell (Nat.le_refl _) _).setCell (Nat.le_refl _) _).setCell (Nat.le_refl _) _).setCell (Nat.le_refl _) _).setCell (Nat.le_refl _) _).drew

set_option maxHeartbeats 1000000 in
theorem rmine_far0 (A : Option Addr) (c : Nat) (l : List UInt8) (rp rg pl : Int) (w : World) (hr : Rd w A l) (hc : l.length ≤ c) (hm : c ≤ maxLen) (v0 v1 v2 v3 v4 : Int) (D : List UInt8) (HS : Hid (frS l = 1)) (HV : Hid (frV l = .agg #[.int .i64 v0, .int .i64 v1, .int .i64 v2, .int .i64 v3, .int .i64 v4])) (HD : Hid (frB l = D)) (h : v0 ≠ rp) : Calls Tryd.prog 14 #[.slice A l.length c, .int .i64 rp, .int .i64 rg, .int .i64 pl] w (RetF w 2 (.agg #[.int .i64 0, .int .i64 0, .int .i64 0, .int .i64 0, .int .i64 0]) []) := by
  have g0 : (v0 != rp) = true := by rw [bne_iff_ne]; exact h
  clear h
  go_enter Tryd.func14, Tryd.ntmps14
  go_wp2_with fail
  refine (ropen_any A c l _ (hr.alloc _) hc hm).mono ?_
  rw [HS.out, HV.out, HD.out]
  rintro e w1 ⟨A1, c1, rfl, hmine1, hl1, hm1, hb1⟩
  have hbb1 : Below w.heap.size w (w1.alloc (.cells #[.int .i64 v0, .int .i64 v1, .int .i64 v2, .int .i64 v3, .int .i64 v4] 25)) := (bt (bal0 w (.cells #[.int .i64 0, .int .i64 0, .int .i64 0, .int .i64 0, .int .i64 0] 25)) hb1).alloc (by have := hb1.size; simp at this; omega) _
  have B1 := ((Blk.new w 25 #[.int .i64 0, .int .i64 0, .int .i64 0, .int .i64 0, .int .i64 0]).bel hb1).alloc (.cells #[.int .i64 v0, .int .i64 v1, .int .i64 v2, .int .i64 v3, .int .i64 v4] 25)
  have C1 := Blk.new w1 25 #[.int .i64 v0, .int .i64 v1, .int .i64 v2, .int .i64 v3, .int .i64 v4]
  have hlt1 : w.heap.size < w1.heap.size := ((Blk.new w 25 #[.int .i64 0, .int .i64 0, .int .i64 0, .int .i64 0, .int .i64 0]).bel hb1).lt
  have hmine2 := (hmine1.alloc (.cells #[.int .i64 v0, .int .i64 v1, .int .i64 v2, .int .i64 v3, .int .i64 v4] 25))
  have hlt0 : w.heap.size < (w.alloc (.cells #[.int .i64 0, .int .i64 0, .int .i64 0, .int .i64 0, .int .i64 0] 25)).heap.size := by simp
  have hne0 : w1.heap.size ≠ w.heap.size := by omega
  have hne1 : w.heap.size ≠ w1.heap.size := by omega
  clear hb1 hmine1
  clear hlt1 hne0 hne1
  have fz := B1.frozen
  have c0_ := B1.c 0 (.int .i64 0) rfl
  have c1_ := B1.c 1 (.int .i64 0) rfl
  have c2_ := B1.c 2 (.int .i64 0) rfl
  have c3_ := B1.c 3 (.int .i64 0) rfl
  have c4_ := B1.c 4 (.int .i64 0) rfl
  have d0 := C1.c 0 (.int .i64 v0) rfl
  have d1 := C1.c 1 (.int .i64 v1) rfl
  have d2 := C1.c 2 (.int .i64 v2) rfl
  have d3 := C1.c 3 (.int .i64 v3) rfl
  have d4 := C1.c 4 (.int .i64 v4) rfl
  go_wp2_with fail
  refine bodyPost_ret (v := .tuple #[.int .u8 2, .agg #[.int .i64 0, .int .i64 0, .int .i64 0, .int .i64 0, .int .i64 0], .slice none 0 0]) (by simp [results, Tryd.results14, go_sem, c0_, c1_, c2_, c3_, c4_]) rfl ⟨none, 0, rfl, Mine.nil _ _ _, Nat.le_refl _, Nat.zero_le _, ?_⟩
  exact ((((((hbb1).setCell (Nat.le_refl _) _).setCell (Nat.le_refl _) _).setCell (Nat.le_refl _) _).setCell (Nat.le_refl _) _).setCell (Nat.le_refl _) _)

set_option maxHeartbeats 1000000 in
theorem rmine_far1 (A : Option Addr) (c : Nat) (l : List UInt8) (rp rg pl : Int) (w : World) (hr : Rd w A l) (hc : l.length ≤ c) (hm : c ≤ maxLen) (v0 v1 v2 v3 v4 : Int) (D : List UInt8) (HS : Hid (frS l = 1)) (HV : Hid (frV l = .agg #[.int .i64 v0, .int .i64 v1, .int .i64 v2, .int .i64 v3, .int .i64 v4])) (HD : Hid (frB l = D)) (e0 : v0 = rp) (h : v1 ≠ rg) : Calls Tryd.prog 14 #[.slice A l.length c, .int .i64 rp, .int .i64 rg, .int .i64 pl] w (RetF w 2 (.agg #[.int .i64 0, .int .i64 0, .int .i64 0, .int .i64 0, .int .i64 0]) []) := by
  subst e0
  have g0 : (v1 != rg) = true := by rw [bne_iff_ne]; exact h
  clear h
  go_enter Tryd.func14, Tryd.ntmps14
  go_wp2_with fail
  refine (ropen_any A c l _ (hr.alloc _) hc hm).mono ?_
  rw [HS.out, HV.out, HD.out]
  rintro e w1 ⟨A1, c1, rfl, hmine1, hl1, hm1, hb1⟩
  have hbb1 : Below w.heap.size w (w1.alloc (.cells #[.int .i64 v0, .int .i64 v1, .int .i64 v2, .int .i64 v3, .int .i64 v4] 25)) := (bt (bal0 w (.cells #[.int .i64 0, .int .i64 0, .int .i64 0, .int .i64 0, .int .i64 0] 25)) hb1).alloc (by have := hb1.size; simp at this; omega) _
  have B1 := ((Blk.new w 25 #[.int .i64 0, .int .i64 0, .int .i64 0, .int .i64 0, .int .i64 0]).bel hb1).alloc (.cells #[.int .i64 v0, .int .i64 v1, .int .i64 v2, .int .i64 v3, .int .i64 v4] 25)
  have C1 := Blk.new w1 25 #[.int .i64 v0, .int .i64 v1, .int .i64 v2, .int .i64 v3, .int .i64 v4]
  have hlt1 : w.heap.size < w1.heap.size := ((Blk.new w 25 #[.int .i64 0, .int .i64 0, .int .i64 0, .int .i64 0, .int .i64 0]).bel hb1).lt
  have hmine2 := (hmine1.alloc (.cells #[.int .i64 v0, .int .i64 v1, .int .i64 v2, .int .i64 v3, .int .i64 v4] 25))
  have hlt0 : w.heap.size < (w.alloc (.cells #[.int .i64 0, .int .i64 0, .int .i64 0, .int .i64 0, .int .i64 0] 25)).heap.size := by simp
  have hne0 : w1.heap.size ≠ w.heap.size := by omega
  have hne1 : w.heap.size ≠ w1.heap.size := by omega
  clear hb1 hmine1
  clear hlt1 hne0 hne1
  have fz := B1.frozen
  have c0_ := B1.c 0 (.int .i64 0) rfl
  have c1_ := B1.c 1 (.int .i64 0) rfl
  have c2_ := B1.c 2 (.int .i64 0) rfl
  have c3_ := B1.c 3 (.int .i64 0) rfl
  have c4_ := B1.c 4 (.int .i64 0) rfl
  have d0 := C1.c 0 (.int .i64 v0) rfl
  have d1 := C1.c 1 (.int .i64 v1) rfl
  have d2 := C1.c 2 (.int .i64 v2) rfl
  have d3 := C1.c 3 (.int .i64 v3) rfl
  have d4 := C1.c 4 (.int .i64 v4) rfl
  go_wp2_with fail
  refine bodyPost_ret (v := .tuple #[.int .u8 2, .agg #[.int .i64 0, .int .i64 0, .int .i64 0, .int .i64 0, .int .i64 0], .slice none 0 0]) (by simp [results, Tryd.results14, go_sem, c0_, c1_, c2_, c3_, c4_]) rfl ⟨none, 0, rfl, Mine.nil _ _ _, Nat.le_refl _, Nat.zero_le _, ?_⟩
  exact ((((((hbb1).setCell (Nat.le_refl _) _).setCell (Nat.le_refl _) _).setCell (Nat.le_refl _) _).setCell (Nat.le_refl _) _).setCell (Nat.le_refl _) _)

set_option maxHeartbeats 1000000 in
theorem rmine_far2 (A : Option Addr) (c : Nat) (l : List UInt8) (rp rg pl : Int) (w : World) (hr : Rd w A l) (hc : l.length ≤ c) (hm : c ≤ maxLen) (v0 v1 v2 v3 v4 : Int) (D : List UInt8) (HS : Hid (frS l = 1)) (HV : Hid (frV l = .agg #[.int .i64 v0, .int .i64 v1, .int .i64 v2, .int .i64 v3, .int .i64 v4])) (HD : Hid (frB l = D)) (e0 : v0 = rp) (e1 : v1 = rg) (h : v2 ≠ pl) : Calls Tryd.prog 14 #[.slice A l.length c, .int .i64 rp, .int .i64 rg, .int .i64 pl] w (RetF w 2 (.agg #[.int .i64 0, .int .i64 0, .int .i64 0, .int .i64 0, .int .i64 0]) []) := by
  subst e0 e1
  have g0 : (v2 != pl) = true := by rw [bne_iff_ne]; exact h
  clear h
  go_enter Tryd.func14, Tryd.ntmps14
  go_wp2_with fail
  refine (ropen_any A c l _ (hr.alloc _) hc hm).mono ?_
  rw [HS.out, HV.out, HD.out]
  rintro e w1 ⟨A1, c1, rfl, hmine1, hl1, hm1, hb1⟩
  have hbb1 : Below w.heap.size w (w1.alloc (.cells #[.int .i64 v0, .int .i64 v1, .int .i64 v2, .int .i64 v3, .int .i64 v4] 25)) := (bt (bal0 w (.cells #[.int .i64 0, .int .i64 0, .int .i64 0, .int .i64 0, .int .i64 0] 25)) hb1).alloc (by have := hb1.size; simp at this; omega) _
  have B1 := ((Blk.new w 25 #[.int .i64 0, .int .i64 0, .int .i64 0, .int .i64 0, .int .i64 0]).bel hb1).alloc (.cells #[.int .i64 v0, .int .i64 v1, .int .i64 v2, .int .i64 v3, .int .i64 v4] 25)
  have C1 := Blk.new w1 25 #[.int .i64 v0, .int .i64 v1, .int .i64 v2, .int .i64 v3, .int .i64 v4]
  have hlt1 : w.heap.size < w1.heap.size := ((Blk.new w 25 #[.int .i64 0, .int .i64 0, .int .i64 0, .int .i64 0, .int .i64 0]).bel hb1).lt
  have hmine2 := (hmine1.alloc (.cells #[.int .i64 v0, .int .i64 v1, .int .i64 v2, .int .i64 v3, .int .i64 v4] 25))
  have hlt0 : w.heap.size < (w.alloc (.cells #[.int .i64 0, .int .i64 0, .int .i64 0, .int .i64 0, .int .i64 0] 25)).heap.size := by simp
  have hne0 : w1.heap.size ≠ w.heap.size := by omega
  have hne1 : w.heap.size ≠ w1.heap.size := by omega
  clear hb1 hmine1
  clear hlt1 hne0 hne1
  have fz := B1.frozen
  have c0_ := B1.c 0 (.int .i64 0) rfl
  have c1_ := B1.c 1 (.int .i64 0) rfl
  have c2_ := B1.c 2 (.int .i64 0) rfl
  have c3_ := B1.c 3 (.int .i64 0) rfl
  have c4_ := B1.c 4 (.int .i64 0) rfl
  have d0 := C1.c 0 (.int .i64 v0) rfl
  have d1 := C1.c 1 (.int .i64 v1) rfl
  have d2 := C1.c 2 (.int .i64 v2) rfl
  have d3 := C1.c 3 (.int .i64 v3) rfl
  have d4 := C1.c 4 (.int .i64 v4) rfl
  go_wp2_with fail
  refine bodyPost_ret (v := .tuple #[.int .u8 2, .agg #[.int .i64 0, .int .i64 0, .int .i64 0, .int .i64 0, .int .i64 0], .slice none 0 0]) (by simp [results, Tryd.results14, go_sem, c0_, c1_, c2_, c3_, c4_]) rfl ⟨none, 0, rfl, Mine.nil _ _ _, Nat.le_refl _, Nat.zero_le _, ?_⟩
  exact ((((((hbb1).setCell (Nat.le_refl _) _).setCell (Nat.le_refl _) _).setCell (Nat.le_refl _) _).setCell (Nat.le_refl _) _).setCell (Nat.le_refl _) _)

theorem rmine_any (A : Option Addr) (c : Nat) (l : List UInt8) (rp rg pl : Int) (w : World) (hr : Rd w A l) (hc : l.length ≤ c) (hm : c ≤ maxLen) : Calls Tryd.prog 14 #[.slice A l.length c, .int .i64 rp, .int .i64 rg, .int .i64 pl] w (RetF w (mnS l rp rg pl) (mnV l rp rg pl) (mnB l rp rg pl)) := by
  have hV : frV l = .agg #[.int .i64 (frF l 0 1), .int .i64 (frF l 1 1), .int .i64 (frF l 2 1), .int .i64 (frF l 3 6), .int .i64 (frF l 9 6)] := rfl
  by_cases hS : frS l = 1
  · by_cases h0 : frF l 0 1 = rp
    · by_cases h1 : frF l 1 1 = rg
      · by_cases h2 : frF l 2 1 = pl
        · have e : mnK l rp rg pl = false := by simp [mnK, h0, h1, h2]
          simp only [mnS, mnV, mnB, e, Bool.false_eq_true, if_false]
          have := rmine_own A c l w hr hc hm _ _ _ _ _ _ (Lib.hid hS) (Lib.hid hV) (Lib.hid rfl)
          rw [h0, h1, h2, ← hS] at this
          rw [hV, h0, h1, h2]
          exact this
        · have e : mnK l rp rg pl = true := by simp [mnK, hS, h2]
          simp only [mnS, mnV, mnB, e, if_true]
          exact rmine_far2 A c l rp rg pl w hr hc hm _ _ _ _ _ _ (Lib.hid hS) (Lib.hid hV) (Lib.hid rfl) h0 h1 h2
      · have e : mnK l rp rg pl = true := by simp [mnK, hS, h1]
        simp only [mnS, mnV, mnB, e, if_true]
        exact rmine_far1 A c l rp rg pl w hr hc hm _ _ _ _ _ _ (Lib.hid hS) (Lib.hid hV) (Lib.hid rfl) h0 h1
    · have e : mnK l rp rg pl = true := by simp [mnK, hS, h0]
      simp only [mnS, mnV, mnB, e, if_true]
      exact rmine_far0 A c l rp rg pl w hr hc hm _ _ _ _ _ _ (Lib.hid hS) (Lib.hid hV) (Lib.hid rfl) h0
  · have e : mnK l rp rg pl = false := by simp [mnK, hS]
    simp only [mnS, mnV, mnB, e, Bool.false_eq_true, if_false]
    rw [hV]
    exact rmine_pass A c l rp rg pl w hr hc hm _ _ _ _ _ _ _ (Lib.hid rfl) (Lib.hid hV) (Lib.hid rfl) (by rw [beq_eq_false_iff_ne]; exact hS)
end Go.Proofs.YtahfippapknolaaDoor
