/-
  awake of layer 12: the walk.
-/
import Derived.Test.YtanpglhpmfdnmaaChkP
namespace Go.Proofs.Ytanpglhpmfdnmaa
open Go.RowKit
set_option linter.unusedVariables false
set_option linter.unusedSimpArgs false
section
variable {a : Act} {w0 w : World} {Q : Exit → Act → World → Prop} {L : List Item} {ops : Array Oper} {rest : List Oper} {d : Option Tmp} {ty tt : TypeId} {ps : String} {af : Array Edge} {gd : Option (Nat × Bool)} {x y : Operand}
theorem Hp.mkZ (H : Hp w0 w L) (h : ∃ n : Nat, (∃ kl, a.eval x = .int kl (n : Int)) ∧ (∃ kc, a.eval y = .int kc (n : Int)) ∧ Nat.ble n 1000000 = true ∧
    ∀ g w', Hp w0 w' (.bytes (some ⟨g, 0, none⟩) n (List.replicate n 0) :: L) → wpList Try.prog ops Q rest (a.put d (.slice (some ⟨g, 0, none⟩) n n)) w') :
    wpList Try.prog ops Q ({ dst := d, op := .makeSlice 22 x y, type := tt, pos := ps, after := af, guard := none } :: rest) a w := by
  obtain ⟨n, ⟨kl, hx⟩, ⟨kc, hy⟩, hn, hk⟩ := h
  have hn := Nat.le_of_ble_eq_true hn
  exact wpList_make_bytes w rfl x y rfl w.heap.size kl kc _ _ n hx hy rfl rfl (by omega) (Nat.le_refl _) (fun w' ho hb hz => hk _ _ (H.callOwn hb ho))
/-- a cell, however it is known -/
theorem wl_ldw {P : Program} (h : Region.wanted { dst := d, op := .load ty x, type := tt, pos := ps, after := af, guard := gd } (yielded ops a.tmps) = true ∧ oneT P ty = true ∧ ∃ p, a.eval x = .pointer (some p) ∧ ∃ v, w.cell? p = some v ∧ wpList P ops Q rest (a.put d v) w) :
    wpList P ops Q ({ dst := d, op := .load ty x, type := tt, pos := ps, after := af, guard := gd } :: rest) a w := by
  obtain ⟨h1, h2, p, hx, v, hv, hk⟩ := h
  have := run_loadAt_cell (P := P) (oneT_c h2) hv
  exact wl_val _ h1 (by simp [execOp, hx, this]) hk
theorem Hp.someR {w0 w : World} {L : List Item} (H : Hp w0 w L) (i : Nat) {e : TypeId} {n m c : Nat} {A : Option Addr} {xs : List Value} (hL : L[i]? = some (.own e n A m c xs)) (hm : 0 < m) : ∃ g, A = some ⟨g, 0, none⟩ := by
  obtain ⟨g, cap, hv, _, _⟩ := World.ownsRow.form (H.holds _ (List.mem_of_getElem? hL)) hm
  injection hv with hA
  exact ⟨g, hA⟩
/-- cell k of a row of one-cell things -/
theorem Hp.cell1 {α : Type} {f : α → Value} {w0 w : World} {L : List Item} (H : Hp w0 w L) (i : Nat) {e : TypeId} {g c : Nat} {l : List α} (hL : L[i]? = some (.rows e 1 (fun x => [f x]) (some ⟨g, 0, none⟩) c l)) (k : Nat) {x : α} (hk : l[k]? = some x) : w.cell? ⟨g, k, none⟩ = some (f x) := by
  obtain ⟨hk', hx⟩ := List.getElem?_eq_some_iff.1 hk
  have := H.cellR (f := fun x => [f x]) (n := 1) (fun _ => rfl) i hL k 0 hk' (v := f x) (by rw [hx]; rfl)
  rwa [Nat.mul_one, Nat.zero_add, Nat.add_zero] at this
end
theorem hw_mkZ {a : Act} {w0 w : World} {Q : Exit → Act → World → Prop} {L : List Item} {x y : Operand} {oi : Oper} {K : Act → World → Prop} (n : Nat) (ho : oi.op = .makeSlice 22 x y) (hx : a.eval x = .int .i64 (n : Int)) (hy : a.eval y = .int .i64 (n : Int)) (hn : n ≤ 1000000) (H : Hp w0 w L)
    (h : ∀ g w', Hp w0 w' (.bytes (some ⟨g, 0, none⟩) n (List.replicate n 0) :: L) → K (a.put oi.dst (.slice (some ⟨g, 0, none⟩) n n)) w') : oi.wp Try.prog a w K Q := by
  obtain ⟨i, hi, hz0, hz1, hz2⟩ := info_parts u8_info
  have hb' : (i.bytes : Int) * (n : Int) ≤ 281474976710656 := by
    rw [hz2]
    omega
  have hr := run_make (P := Try.prog) w _ _ i _ u8_slice hi hz0 .i64 .i64 n n (by omega) (by omega) hb' (by omega)
  simp only [Int.toNat_natCast] at hr
  have hown : Own (w.alloc (.cells (madeCells (Value.int .u8 0).cells (n * i.size)) 5)) w0.heap.size (some ⟨w.heap.size, 0, none⟩) n (List.replicate n 0) := by
    unfold Own
    rw [hz1, Nat.mul_one, List.length_replicate]
    have h1 := World.ownsRow_lit (base := w0.heap.size) (e := 5) (size := 1) w (madeCells (Value.int .u8 0).cells n) n H.size (by unfold maxLen; omega) (by simp [size_madeCells])
    have e : (madeCells (Value.int .u8 0).cells n).toList = bvs (List.replicate n 0) := by
      rw [show (Value.int .u8 0).cells = #[Value.int .u8 0] from rfl, toList_madeCells_one]
      simp [bvs]
    rwa [e] at h1
  refine hw_turn (v := .slice (some ⟨w.heap.size, 0, none⟩) n n) (w' := w.alloc (.cells (madeCells (Value.int .u8 0).cells (n * i.size)) 5)) ?_ (h _ _ ?_)
  · simp [execOp, ho, hx, hy, hr, Result.andThen]
  · exact H.new (H.below.alloc H.size _) (by simp) (fun k hk => Below.heap_alloc w _ k hk) hown (fun k hk => by simp [Item.foot] at hk; subst hk; simp)
theorem hw_bsl2 {a : Act} {w0 w : World} {Q : Exit → Act → World → Prop} {L : List Item} {t e : TypeId} {x y : Operand} {oi : Oper} {K : Act → World → Prop} {P : Program} {u v : Value} (ho : oi.op = .buildSlice t 2 #[(0, x), (1, y)]) (ht : P.underlying t = some (.slice e)) (hi : (P.info? e).map (fun i => (i.zero.isSome, i.size)) = some (true, 1)) (hx : a.eval x = u) (hy : a.eval y = v) (h1 : u.oneCell' = true) (h2 : v.oneCell' = true) (H : Hp w0 w L)
    (h : ∀ g w', Hp w0 w' (.blk g e [u, v] :: L) → K (a.put oi.dst (.slice (some ⟨g, 0, none⟩) 2 2)) w') : oi.wp P a w K Q := by
  cases hq : P.info? e with
  | none => rw [hq] at hi; cases hi
  | some i =>
    rw [hq] at hi
    simp only [Option.map_some, Option.some.injEq, Prod.mk.injEq] at hi
    obtain ⟨z, hz⟩ := Option.isSome_iff_exists.1 hi.1
    have hr := run_bsl (P := P) w ht hq hz hi.2 2 (by omega) (by omega) #[(0, u), (1, v)] [u, v] (by
      have hf := fill_nums [u, v] 0 ((Array.range (2 * 1)).map (fun k => z.cells[k % z.cells.size]!)).toList (by simp [h1, h2]) (by simp)
      rw [List.take_zero, List.nil_append] at hf
      rw [← hf]
      rfl)
    refine hw_turn (v := .slice (some ⟨w.heap.size, 0, none⟩) 2 2) (w' := w.alloc (.cells [u, v].toArray e)) ?_ (h _ _ (H.alloc _ _))
    simp [execOp, ho, hx, hy, hr]
theorem join_bad (A : Option Addr) (c : Nat) (w : World) (hr : RdL w A [List.replicate 79 0, List.replicate 1 0]) : Calls Try.prog 33 #[.slice A 2 c] w (RetBI w [] 2) :=
  pjoin_any A c [List.replicate 79 0, List.replicate 1 0] w hr (by decide) (by simp)
theorem rdl_two {w0 w : World} {L : List Item} (H : Hp w0 w L) (i j k : Nat) {g : Nat} {e : TypeId} {A B : Option Addr} {c d : Nat} {a b : List UInt8} (hi : L[i]? = some (.blk g e [.slice A a.length c, .slice B b.length d])) (hj : L[j]? = some (.bytes A c a)) (hk : L[k]? = some (.bytes B d b)) : RdL w (some ⟨g, 0, none⟩) [a, b] := by
  intro _
  refine ⟨g, 0, rfl, fun q hq => ?_⟩
  match q, hq with
  | 0, _ => exact ⟨A, c, H.c i hi 0 rfl, (H.o j hj).rd⟩
  | 1, _ => exact ⟨B, d, H.c i hi 1 rfl, (H.o k hk).rd⟩
theorem cf_join (args : Array Value) (w : World) : (callFunc 33 args).run Try.prog w = .ok (.enter 33 args) w := by kernel_rfl
theorem two_of {chs : List Ch} {a b : List UInt8} (h : chs.map (·.l) = [a, b]) : ∃ x y, chs = [x, y] ∧ x.l = a ∧ y.l = b := by
  match chs, h with
  | [x, y], h =>
    simp only [List.map_cons, List.map_nil, List.cons.injEq, and_true] at h
    exact ⟨x, y, rfl, h.1, h.2⟩
theorem one_of {chs : List Ch} {a : List UInt8} (h : chs.map (·.l) = [a]) : ∃ x, chs = [x] ∧ x.l = a := by
  match chs, h with
  | [x], h =>
    simp only [List.map_cons, List.map_nil, List.cons.injEq, and_true] at h
    exact ⟨x, rfl, h⟩
def RetSp2 (w : World) (p q : Nat) (e : Ending) (w' : World) : Prop := ∃ b d x y, e = .returned (.tuple #[.slice (some ⟨b, 0, none⟩) 2 d, .int .i64 0]) ∧ x.l.length = p ∧ y.l.length = q ∧ Hp w w' [.rows 22 1 chC (some ⟨b, 0, none⟩) d [x, y]]
theorem split_n2 (n p q : Nat) (A : Option Addr) (c : Nat) (w : World) (hr : Rd w A (List.replicate n 0)) (hn : n ≤ c) (hc : c ≤ maxLen) (h6 : n ≤ 640) (hs : ∃ a b, spl (List.replicate n 0) = [a, b] ∧ a.length = p ∧ b.length = q) : Calls Try.prog 30 #[.slice A n c] w (RetSp2 w p q) := by
  obtain ⟨a, b, hs, h1, h2⟩ := hs
  have hl : (List.replicate n (0 : UInt8)).length = n := List.length_replicate
  have := split_yes A c (List.replicate n 0) w hr (by rw [hl]; exact hn) hc (by rw [hl]; exact decide_eq_false (by omega))
  rw [hl] at this
  refine this.mono ?_
  rintro e w' ⟨B, d, chs, rfl, hm, H⟩
  rw [hs] at hm
  obtain ⟨x, y, rfl, rfl, rfl⟩ := two_of hm
  obtain ⟨g, rfl⟩ := H.someR 0 rfl (by simp)
  exact ⟨g, d, x, y, rfl, h1, h2, H.sub (List.Sublist.cons_cons _ (List.nil_sublist _))⟩
def RetSp1 (w : World) (e : Ending) (w' : World) : Prop := ∃ b d x, e = .returned (.tuple #[.slice (some ⟨b, 0, none⟩) 1 d, .int .i64 0]) ∧ x.l = [] ∧ Hp w w' [.rows 22 1 chC (some ⟨b, 0, none⟩) d [x]]
theorem split_n1 (w : World) : Calls Try.prog 30 #[.slice none 0 0] w (RetSp1 w) := by
  refine (split_yes none 0 [] w (Rd.nil _ _) (Nat.le_refl _) (Nat.zero_le _) rfl).mono ?_
  rintro e w' ⟨B, d, chs, rfl, hm, H⟩
  obtain ⟨x, rfl, hx⟩ := one_of (hm.trans (show spl [] = [[]] from rfl))
  obtain ⟨g, rfl⟩ := H.someR 0 rfl (by simp)
  exact ⟨g, d, x, rfl, hx, H.sub (List.Sublist.cons_cons _ (List.nil_sublist _))⟩
theorem split_n0 (n : Nat) (A : Option Addr) (c : Nat) (w : World) (hn : 640 < n) : Calls Try.prog 30 #[.slice A n c] w (fun e w' => ∃ B d, e = .returned (.tuple #[.slice B 0 d, .int .i64 3]) ∧ Below w.heap.size w w') := by
  have := split_no A c (List.replicate n 0) w (by rw [List.length_replicate]; exact decide_eq_true (by omega))
  rw [List.length_replicate] at this
  refine this.mono ?_
  rintro e w' ⟨B, d, chs, rfl, hm, H⟩
  obtain rfl : chs = [] := by cases chs with | nil => rfl | cons x l => simp at hm
  exact ⟨B, d, rfl, H.below⟩
theorem hm_new {w0 w : World} {gh gm n : Nat} {L : List Item} (H : Hp w0 w (ghI gh gm ⟨n, [], 0⟩ :: gmI gm ⟨n, [], 0⟩ :: L)) : HM w gh gm ⟨n, [], 0⟩ := hm_of H (fun x hx => by have hx : x ∈ ([] : List MCh) := hx; cases hx)
theorem hnew_2 (w : World) : Calls Try.prog 21 #[.int .i64 2] w (RetHeap w 2) := hnew_yes 2 w (by decide) (by decide)
def RetM2 (w : World) (e : Ending) (w' : World) : Prop := ∃ b c, e = .returned (.slice (some ⟨b, 0, none⟩) 2 c) ∧ Hp w w' [.rows 3 1 riC (some ⟨b, 0, none⟩) c [0, 1]]
theorem hmiss_2 (gh gm : Nat) (w : World) (hM : HM w gh gm ⟨2, [], 0⟩) : Calls Try.prog 20 #[.pointer (some ⟨gh, 0, none⟩)] w (RetM2 w) := by
  refine (hmiss_any gh gm ⟨2, [], 0⟩ w hM (by decide) (by decide)).mono ?_
  rintro e w' ⟨A, c, rfl, H⟩
  have e1 : (Hs.miss ⟨2, [], 0⟩ 2) = [0, 1] := rfl
  rw [show (Hs.mk 2 [] 0).n = 2 from rfl, e1] at H ⊢
  obtain ⟨g, rfl⟩ := H.someR 0 rfl (by simp)
  exact ⟨g, c, rfl, H⟩
set_option maxRecDepth 100000 in
set_option maxHeartbeats 4000000 in
theorem awake12_any (w : World) : Calls Try.prog 35 #[] w (RetV w (.bool true)) := by
  have H := Hp.nil w
  have hs1 : ∃ a b, spl (List.replicate 81 0) = [a, b] ∧ a.length = 80 ∧ b.length = 1 := ⟨_, _, rfl, rfl, rfl⟩
  have hs2 : ∃ a b, spl (List.replicate 160 0) = [a, b] ∧ a.length = 80 ∧ b.length = 80 := ⟨_, _, rfl, rfl, rfl⟩
  go_enter Try.func35, Try.ntmps35
  go_wp2_with (first | ((with_reducible refine Hp.box H ?_); (first | refine ⟨rfl, [.pointer _], rfl, ?_⟩ | refine ⟨rfl, [.int _ _], rfl, ?_⟩ | refine ⟨rfl, [.slice _ _ _], rfl, ?_⟩ | refine ⟨rfl, [.bool _], rfl, ?_⟩ | refine ⟨rfl, [.string _], rfl, ?_⟩ | refine ⟨rfl, _, rfl, ?_⟩); (clear H; intro g1 w1 H); go_frame) | ((with_reducible refine Hp.allo H ?_); refine ⟨rfl, ?_⟩; refine ⟨_, z_look rfl, ?_⟩; (clear H; intro g1 w1 H); go_frame) | ((with_reducible refine Hp.ld H ?_); refine ⟨rfl, ?_⟩; refine ⟨c_look rfl, ?_⟩; refine ⟨_, _, rfl, ?_⟩; ((repeat ((fail_if_success refine ⟨_, _, _, .z, ?_⟩); refine hs ?_)); refine ⟨_, _, _, .z, ?_⟩); refine ⟨_, rfl, ?_⟩; go_frame) | ((with_reducible refine Hp.lda H ?_); refine ⟨rfl, by kernel_rfl, ?_⟩; refine ⟨_, s_look rfl, ?_⟩; refine ⟨_, rfl, ?_⟩; ((repeat ((fail_if_success refine ⟨_, _, _, .z, ?_⟩); refine hs ?_)); refine ⟨_, _, _, .z, ?_⟩); refine ⟨rfl, ?_⟩; go_frame) | ((with_reducible refine Hp.lds H ?_); refine ⟨rfl, by kernel_rfl, ?_⟩; refine ⟨_, s_look rfl, ?_⟩; refine ⟨_, _, rfl, ?_⟩; ((repeat ((fail_if_success refine ⟨_, _, _, .z, ?_⟩); refine hs ?_)); refine ⟨_, _, _, .z, ?_⟩); (first | refine ⟨[_, _], rfl, rfl, ?_⟩ | refine ⟨[_, _, _, _], rfl, rfl, ?_⟩ | refine ⟨[_, _, _, _, _, _, _], rfl, rfl, ?_⟩ | refine ⟨[_, _, _], rfl, rfl, ?_⟩ | (fail)); go_frame) | ((with_reducible refine Hp.sto H ?_); refine ⟨rfl, ?_⟩; refine ⟨c_look rfl, ?_⟩; refine ⟨_, _, rfl, ?_⟩; ((repeat ((fail_if_success refine ⟨_, _, _, .z, ?_⟩); refine hs ?_)); refine ⟨_, _, _, .z, ?_⟩); refine ⟨⟨_, rfl⟩, rfl, ?_⟩; (clear H; intro w1 H; simp only [List.set] at H); go_frame) | ((with_reducible refine Hp.sta H ?_); refine ⟨rfl, ?_⟩; refine ⟨_, s_look rfl, ?_⟩; refine ⟨_, rfl, _, rfl, rfl, ?_⟩; ((repeat ((fail_if_success refine ⟨_, _, _, .z, ?_⟩); refine hs ?_)); refine ⟨_, _, _, .z, ?_⟩); refine ⟨rfl, rfl, ?_⟩; (clear H; intro w1 H; simp only [List.set] at H); go_frame) | ((with_reducible refine Hp.str H ?_); refine ⟨rfl, ?_⟩; refine ⟨_, s_look rfl, ?_⟩; refine ⟨_, _, rfl, _, rfl, rfl, ?_⟩; ((repeat ((fail_if_success refine ⟨_, _, _, .z, ?_⟩); refine hs ?_)); refine ⟨_, _, _, .z, ?_⟩); refine ⟨rfl, _, rfl, _, rfl, Nat.le_of_ble_eq_true rfl, ?_⟩; (clear H; intro w1 H; simp only [List.set] at H); go_frame) | ((with_reducible refine Hp.bdl H ?_); (fail); go_frame) | ((with_reducible refine Hp.mkZ H ?_); (first | refine ⟨81, ⟨_, rfl⟩, ⟨_, rfl⟩, rfl, ?_⟩ | refine ⟨160, ⟨_, rfl⟩, ⟨_, rfl⟩, rfl, ?_⟩ | refine ⟨641, ⟨_, rfl⟩, ⟨_, rfl⟩, rfl, ?_⟩); (clear H; intro g1 w1 H); go_frame) | ((with_reducible refine (split_n2 81 80 1 _ _ _ (H.o 0 rfl).rd (by decide) (by unfold maxLen; decide) (by decide) hs1).mono ?_); rintro _ w1 ⟨bA, dA, xA, yA, rfl, eA, fA, HB⟩; replace H := HB.onto H; clear HB; simp only [List.cons_append, List.nil_append] at H) | ((with_reducible refine (split_n2 160 80 80 _ _ _ (H.o 0 rfl).rd (by decide) (by unfold maxLen; decide) (by decide) hs2).mono ?_); rintro _ w1 ⟨bB, dB, xB, yB, rfl, eB, fB, HB⟩; replace H := HB.onto H; clear HB; simp only [List.cons_append, List.nil_append] at H) | ((with_reducible refine (split_n1 _).mono ?_); rintro _ w1 ⟨bC, dC, xC, rfl, eC, HB⟩; replace H := HB.onto H; clear HB; simp only [List.cons_append, List.nil_append] at H) | ((with_reducible refine (split_n0 641 _ _ _ (by decide)).mono ?_); rintro _ w1 ⟨BD, dD, rfl, hb⟩; replace H := H.call hb; clear hb) | ((with_reducible refine (hnew_2 _).mono ?_); rintro _ w1 ⟨gh, gm, rfl, HB⟩; replace H := HB.onto H; clear HB; simp only [List.cons_append, List.nil_append] at H) | ((with_reducible refine (hmiss_2 gh gm _ (hm_new H)).mono ?_); rintro _ w1 ⟨bM, cM, rfl, HB⟩; replace H := HB.onto H; clear HB; simp only [List.cons_append, List.nil_append] at H; have qA0 := H.cell1 (f := fun x : Ch => .slice x.A x.l.length x.c) 6 rfl 0 rfl; have qA1 := H.cell1 (f := fun x : Ch => .slice x.A x.l.length x.c) 6 rfl 1 rfl; have qB0 := H.cell1 (f := fun x : Ch => .slice x.A x.l.length x.c) 7 rfl 0 rfl; have qB1 := H.cell1 (f := fun x : Ch => .slice x.A x.l.length x.c) 7 rfl 1 rfl; have qC0 := H.cell1 (f := fun x : Ch => .slice x.A x.l.length x.c) 8 rfl 0 rfl; have qM0 := H.cell1 (f := fun x : Int => .int .i64 x) 0 rfl 0 rfl; have qM1 := H.cell1 (f := fun x : Int => .int .i64 x) 0 rfl 1 rfl; rw [eA] at qA0; rw [fA] at qA1; rw [eB] at qB0; rw [fB] at qB1; rw [lC] at qC0) | ((with_reducible refine wl_ldw ?_); refine ⟨rfl, by kernel_rfl, _, rfl, _, ‹_›, ?_⟩; go_frame))
  replace H : Hp w w1 [.rows 22 1 chC (some ⟨bA, 0, none⟩) dA [xA, yA], .rows 22 1 chC (some ⟨bB, 0, none⟩) dB [xB, yB], .rows 22 1 chC (some ⟨bC, 0, none⟩) dC [xC]] := H.pick [4, 2, 1] (by decide) rfl
  have lC : xC.l.length = 0 := by rw [eC]; rfl
  refine hw_startW _ (L0 := []) (by rw [List.append_nil]; exact H) (by kernel_rfl) (fun H => ?_)
  rw [List.append_nil] at H
  obtain ⟨w2, hw2⟩ : ∃ w2, w1.drew = w2 := ⟨_, rfl⟩
  rw [hw2] at H ⊢
  clear hw2
  refine hw_two 0 1 (by decide +kernel) ⟨_, rfl, rfl, fun K hK => ?_⟩ ⟨_, rfl, rfl, fun K hK => ?_⟩
  · (refine hw_mkZ 79 rfl rfl rfl (by decide) H (fun g w3 H => ?_); refine hK _ _ (hS0 H) ?_; clear hK K; go_frame)
    (refine hw_one 1 (by decide +kernel) ⟨_, rfl, rfl, fun K hK => ?_⟩); (refine hw_mkZ 1 rfl rfl rfl (by decide) H (fun g w3 H => ?_); refine hK _ _ (hS0 H) ?_; clear hK K; go_frame)
    (refine hw_one 2 (by decide +kernel) ⟨_, rfl, rfl, fun K hK => ?_⟩); (refine hw_bsl2 rfl ll_u ll_i1 rfl rfl rfl rfl H (fun gL w3 H => ?_); refine hK _ _ (hS0 H) ?_; clear hK K; go_frame)
    (refine hw_one 3 (by decide +kernel) ⟨_, rfl, rfl, fun K hK => ?_⟩); (refine hw_callk (vs := [_]) (join_bad _ _ _ (rdl_two H 0 2 1 rfl rfl rfl)) cf_join rfl rfl rfl ?_; rintro e w3 ⟨AJ, cJ, rfl, hown, hb⟩; replace H := H.call hb; clear hown hb; refine ⟨_, rfl, hK _ _ (hS0 H) ?_⟩; clear hK K; go_frame; have hS := hS0 H)
    ((refine hw_take hS 4 (by decide +kernel) (by decide +kernel) (by decide +kernel) ⟨_, rfl, rfl, ?_, ?_, fun _ _ _ h => h, ?_⟩; rotate_left; (intro w _; go_simp; try with_reducible rfl); go_frame); (refine hw_take hS 5 (by decide +kernel) (by decide +kernel) (by decide +kernel) ⟨_, rfl, rfl, ?_, ?_, fun _ _ _ h => h, ?_⟩; rotate_left; (intro w _; go_simp; try with_reducible rfl); go_frame); (refine hw_take hS 6 (by decide +kernel) (by decide +kernel) (by decide +kernel) ⟨_, rfl, rfl, ?_, ?_, fun _ _ _ h => h, ?_⟩; rotate_left; (intro w _; go_simp; try with_reducible rfl); go_frame); (refine hw_take hS 7 (by decide +kernel) (by decide +kernel) (by decide +kernel) ⟨_, rfl, rfl, ?_, ?_, fun _ _ _ h => h, ?_⟩; rotate_left; (intro w _; go_simp; try with_reducible rfl); go_frame); (refine hw_take hS 8 (by decide +kernel) (by decide +kernel) (by decide +kernel) ⟨_, rfl, rfl, ?_, ?_, fun _ _ _ h => h, ?_⟩; rotate_left; (intro w _; go_simp; try with_reducible rfl); go_frame); refine wpAnyH_done (by kernel_rfl) ?_ _; clear hS; go_wp2_with (first | ((with_reducible refine Hp.box H ?_); (first | refine ⟨rfl, [.pointer _], rfl, ?_⟩ | refine ⟨rfl, [.int _ _], rfl, ?_⟩ | refine ⟨rfl, [.slice _ _ _], rfl, ?_⟩ | refine ⟨rfl, [.bool _], rfl, ?_⟩ | refine ⟨rfl, [.string _], rfl, ?_⟩ | refine ⟨rfl, _, rfl, ?_⟩); (clear H; intro g1 w1 H); go_frame) | ((with_reducible refine Hp.allo H ?_); refine ⟨rfl, ?_⟩; refine ⟨_, z_look rfl, ?_⟩; (clear H; intro g1 w1 H); go_frame) | ((with_reducible refine Hp.ld H ?_); refine ⟨rfl, ?_⟩; refine ⟨c_look rfl, ?_⟩; refine ⟨_, _, rfl, ?_⟩; ((repeat ((fail_if_success refine ⟨_, _, _, .z, ?_⟩); refine hs ?_)); refine ⟨_, _, _, .z, ?_⟩); refine ⟨_, rfl, ?_⟩; go_frame) | ((with_reducible refine Hp.lda H ?_); refine ⟨rfl, by kernel_rfl, ?_⟩; refine ⟨_, s_look rfl, ?_⟩; refine ⟨_, rfl, ?_⟩; ((repeat ((fail_if_success refine ⟨_, _, _, .z, ?_⟩); refine hs ?_)); refine ⟨_, _, _, .z, ?_⟩); refine ⟨rfl, ?_⟩; go_frame) | ((with_reducible refine Hp.lds H ?_); refine ⟨rfl, by kernel_rfl, ?_⟩; refine ⟨_, s_look rfl, ?_⟩; refine ⟨_, _, rfl, ?_⟩; ((repeat ((fail_if_success refine ⟨_, _, _, .z, ?_⟩); refine hs ?_)); refine ⟨_, _, _, .z, ?_⟩); (first | refine ⟨[_, _], rfl, rfl, ?_⟩ | refine ⟨[_, _, _, _], rfl, rfl, ?_⟩ | refine ⟨[_, _, _, _, _, _, _], rfl, rfl, ?_⟩ | refine ⟨[_, _, _], rfl, rfl, ?_⟩ | (fail)); go_frame) | ((with_reducible refine Hp.sto H ?_); refine ⟨rfl, ?_⟩; refine ⟨c_look rfl, ?_⟩; refine ⟨_, _, rfl, ?_⟩; ((repeat ((fail_if_success refine ⟨_, _, _, .z, ?_⟩); refine hs ?_)); refine ⟨_, _, _, .z, ?_⟩); refine ⟨⟨_, rfl⟩, rfl, ?_⟩; (clear H; intro w1 H; simp only [List.set] at H); go_frame) | ((with_reducible refine Hp.sta H ?_); refine ⟨rfl, ?_⟩; refine ⟨_, s_look rfl, ?_⟩; refine ⟨_, rfl, _, rfl, rfl, ?_⟩; ((repeat ((fail_if_success refine ⟨_, _, _, .z, ?_⟩); refine hs ?_)); refine ⟨_, _, _, .z, ?_⟩); refine ⟨rfl, rfl, ?_⟩; (clear H; intro w1 H; simp only [List.set] at H); go_frame) | ((with_reducible refine Hp.str H ?_); refine ⟨rfl, ?_⟩; refine ⟨_, s_look rfl, ?_⟩; refine ⟨_, _, rfl, _, rfl, rfl, ?_⟩; ((repeat ((fail_if_success refine ⟨_, _, _, .z, ?_⟩); refine hs ?_)); refine ⟨_, _, _, .z, ?_⟩); refine ⟨rfl, _, rfl, _, rfl, Nat.le_of_ble_eq_true rfl, ?_⟩; (clear H; intro w1 H; simp only [List.set] at H); go_frame) | ((with_reducible refine Hp.bdl H ?_); (fail); go_frame) | ((with_reducible refine Hp.mkZ H ?_); (first | refine ⟨81, ⟨_, rfl⟩, ⟨_, rfl⟩, rfl, ?_⟩ | refine ⟨160, ⟨_, rfl⟩, ⟨_, rfl⟩, rfl, ?_⟩ | refine ⟨641, ⟨_, rfl⟩, ⟨_, rfl⟩, rfl, ?_⟩); (clear H; intro g1 w1 H); go_frame) | ((with_reducible refine (split_n2 81 80 1 _ _ _ (H.o 0 rfl).rd (by decide) (by unfold maxLen; decide) (by decide) hs1).mono ?_); rintro _ w1 ⟨bA, dA, xA, yA, rfl, eA, fA, HB⟩; replace H := HB.onto H; clear HB; simp only [List.cons_append, List.nil_append] at H) | ((with_reducible refine (split_n2 160 80 80 _ _ _ (H.o 0 rfl).rd (by decide) (by unfold maxLen; decide) (by decide) hs2).mono ?_); rintro _ w1 ⟨bB, dB, xB, yB, rfl, eB, fB, HB⟩; replace H := HB.onto H; clear HB; simp only [List.cons_append, List.nil_append] at H) | ((with_reducible refine (split_n1 _).mono ?_); rintro _ w1 ⟨bC, dC, xC, rfl, eC, HB⟩; replace H := HB.onto H; clear HB; simp only [List.cons_append, List.nil_append] at H) | ((with_reducible refine (split_n0 641 _ _ _ (by decide)).mono ?_); rintro _ w1 ⟨BD, dD, rfl, hb⟩; replace H := H.call hb; clear hb) | ((with_reducible refine (hnew_2 _).mono ?_); rintro _ w1 ⟨gh, gm, rfl, HB⟩; replace H := HB.onto H; clear HB; simp only [List.cons_append, List.nil_append] at H) | ((with_reducible refine (hmiss_2 gh gm _ (hm_new H)).mono ?_); rintro _ w1 ⟨bM, cM, rfl, HB⟩; replace H := HB.onto H; clear HB; simp only [List.cons_append, List.nil_append] at H; have qA0 := H.cell1 (f := fun x : Ch => .slice x.A x.l.length x.c) 6 rfl 0 rfl; have qA1 := H.cell1 (f := fun x : Ch => .slice x.A x.l.length x.c) 6 rfl 1 rfl; have qB0 := H.cell1 (f := fun x : Ch => .slice x.A x.l.length x.c) 7 rfl 0 rfl; have qB1 := H.cell1 (f := fun x : Ch => .slice x.A x.l.length x.c) 7 rfl 1 rfl; have qC0 := H.cell1 (f := fun x : Ch => .slice x.A x.l.length x.c) 8 rfl 0 rfl; have qM0 := H.cell1 (f := fun x : Int => .int .i64 x) 0 rfl 0 rfl; have qM1 := H.cell1 (f := fun x : Int => .int .i64 x) 0 rfl 1 rfl; rw [eA] at qA0; rw [fA] at qA1; rw [eB] at qB0; rw [fB] at qB1; rw [lC] at qC0) | ((with_reducible refine wl_ldw ?_); refine ⟨rfl, by kernel_rfl, _, rfl, _, ‹_›, ?_⟩; go_frame)))
    go_ret
    exact ⟨rfl, H.below⟩
  · (refine hw_mkZ 1 rfl rfl rfl (by decide) H (fun g w3 H => ?_); refine hK _ _ (hS0 H) ?_; clear hK K; go_frame)
    (refine hw_one 0 (by decide +kernel) ⟨_, rfl, rfl, fun K hK => ?_⟩); (refine hw_mkZ 79 rfl rfl rfl (by decide) H (fun g w3 H => ?_); refine hK _ _ (hS0 H) ?_; clear hK K; go_frame)
    (refine hw_one 2 (by decide +kernel) ⟨_, rfl, rfl, fun K hK => ?_⟩); (refine hw_bsl2 rfl ll_u ll_i1 rfl rfl rfl rfl H (fun gL w3 H => ?_); refine hK _ _ (hS0 H) ?_; clear hK K; go_frame)
    (refine hw_one 3 (by decide +kernel) ⟨_, rfl, rfl, fun K hK => ?_⟩); (refine hw_callk (vs := [_]) (join_bad _ _ _ (rdl_two H 0 1 2 rfl rfl rfl)) cf_join rfl rfl rfl ?_; rintro e w3 ⟨AJ, cJ, rfl, hown, hb⟩; replace H := H.call hb; clear hown hb; refine ⟨_, rfl, hK _ _ (hS0 H) ?_⟩; clear hK K; go_frame; have hS := hS0 H)
    ((refine hw_take hS 4 (by decide +kernel) (by decide +kernel) (by decide +kernel) ⟨_, rfl, rfl, ?_, ?_, fun _ _ _ h => h, ?_⟩; rotate_left; (intro w _; go_simp; try with_reducible rfl); go_frame); (refine hw_take hS 5 (by decide +kernel) (by decide +kernel) (by decide +kernel) ⟨_, rfl, rfl, ?_, ?_, fun _ _ _ h => h, ?_⟩; rotate_left; (intro w _; go_simp; try with_reducible rfl); go_frame); (refine hw_take hS 6 (by decide +kernel) (by decide +kernel) (by decide +kernel) ⟨_, rfl, rfl, ?_, ?_, fun _ _ _ h => h, ?_⟩; rotate_left; (intro w _; go_simp; try with_reducible rfl); go_frame); (refine hw_take hS 7 (by decide +kernel) (by decide +kernel) (by decide +kernel) ⟨_, rfl, rfl, ?_, ?_, fun _ _ _ h => h, ?_⟩; rotate_left; (intro w _; go_simp; try with_reducible rfl); go_frame); (refine hw_take hS 8 (by decide +kernel) (by decide +kernel) (by decide +kernel) ⟨_, rfl, rfl, ?_, ?_, fun _ _ _ h => h, ?_⟩; rotate_left; (intro w _; go_simp; try with_reducible rfl); go_frame); refine wpAnyH_done (by kernel_rfl) ?_ _; clear hS; go_wp2_with (first | ((with_reducible refine Hp.box H ?_); (first | refine ⟨rfl, [.pointer _], rfl, ?_⟩ | refine ⟨rfl, [.int _ _], rfl, ?_⟩ | refine ⟨rfl, [.slice _ _ _], rfl, ?_⟩ | refine ⟨rfl, [.bool _], rfl, ?_⟩ | refine ⟨rfl, [.string _], rfl, ?_⟩ | refine ⟨rfl, _, rfl, ?_⟩); (clear H; intro g1 w1 H); go_frame) | ((with_reducible refine Hp.allo H ?_); refine ⟨rfl, ?_⟩; refine ⟨_, z_look rfl, ?_⟩; (clear H; intro g1 w1 H); go_frame) | ((with_reducible refine Hp.ld H ?_); refine ⟨rfl, ?_⟩; refine ⟨c_look rfl, ?_⟩; refine ⟨_, _, rfl, ?_⟩; ((repeat ((fail_if_success refine ⟨_, _, _, .z, ?_⟩); refine hs ?_)); refine ⟨_, _, _, .z, ?_⟩); refine ⟨_, rfl, ?_⟩; go_frame) | ((with_reducible refine Hp.lda H ?_); refine ⟨rfl, by kernel_rfl, ?_⟩; refine ⟨_, s_look rfl, ?_⟩; refine ⟨_, rfl, ?_⟩; ((repeat ((fail_if_success refine ⟨_, _, _, .z, ?_⟩); refine hs ?_)); refine ⟨_, _, _, .z, ?_⟩); refine ⟨rfl, ?_⟩; go_frame) | ((with_reducible refine Hp.lds H ?_); refine ⟨rfl, by kernel_rfl, ?_⟩; refine ⟨_, s_look rfl, ?_⟩; refine ⟨_, _, rfl, ?_⟩; ((repeat ((fail_if_success refine ⟨_, _, _, .z, ?_⟩); refine hs ?_)); refine ⟨_, _, _, .z, ?_⟩); (first | refine ⟨[_, _], rfl, rfl, ?_⟩ | refine ⟨[_, _, _, _], rfl, rfl, ?_⟩ | refine ⟨[_, _, _, _, _, _, _], rfl, rfl, ?_⟩ | refine ⟨[_, _, _], rfl, rfl, ?_⟩ | (fail)); go_frame) | ((with_reducible refine Hp.sto H ?_); refine ⟨rfl, ?_⟩; refine ⟨c_look rfl, ?_⟩; refine ⟨_, _, rfl, ?_⟩; ((repeat ((fail_if_success refine ⟨_, _, _, .z, ?_⟩); refine hs ?_)); refine ⟨_, _, _, .z, ?_⟩); refine ⟨⟨_, rfl⟩, rfl, ?_⟩; (clear H; intro w1 H; simp only [List.set] at H); go_frame) | ((with_reducible refine Hp.sta H ?_); refine ⟨rfl, ?_⟩; refine ⟨_, s_look rfl, ?_⟩; refine ⟨_, rfl, _, rfl, rfl, ?_⟩; ((repeat ((fail_if_success refine ⟨_, _, _, .z, ?_⟩); refine hs ?_)); refine ⟨_, _, _, .z, ?_⟩); refine ⟨rfl, rfl, ?_⟩; (clear H; intro w1 H; simp only [List.set] at H); go_frame) | ((with_reducible refine Hp.str H ?_); refine ⟨rfl, ?_⟩; refine ⟨_, s_look rfl, ?_⟩; refine ⟨_, _, rfl, _, rfl, rfl, ?_⟩; ((repeat ((fail_if_success refine ⟨_, _, _, .z, ?_⟩); refine hs ?_)); refine ⟨_, _, _, .z, ?_⟩); refine ⟨rfl, _, rfl, _, rfl, Nat.le_of_ble_eq_true rfl, ?_⟩; (clear H; intro w1 H; simp only [List.set] at H); go_frame) | ((with_reducible refine Hp.bdl H ?_); (fail); go_frame) | ((with_reducible refine Hp.mkZ H ?_); (first | refine ⟨81, ⟨_, rfl⟩, ⟨_, rfl⟩, rfl, ?_⟩ | refine ⟨160, ⟨_, rfl⟩, ⟨_, rfl⟩, rfl, ?_⟩ | refine ⟨641, ⟨_, rfl⟩, ⟨_, rfl⟩, rfl, ?_⟩); (clear H; intro g1 w1 H); go_frame) | ((with_reducible refine (split_n2 81 80 1 _ _ _ (H.o 0 rfl).rd (by decide) (by unfold maxLen; decide) (by decide) hs1).mono ?_); rintro _ w1 ⟨bA, dA, xA, yA, rfl, eA, fA, HB⟩; replace H := HB.onto H; clear HB; simp only [List.cons_append, List.nil_append] at H) | ((with_reducible refine (split_n2 160 80 80 _ _ _ (H.o 0 rfl).rd (by decide) (by unfold maxLen; decide) (by decide) hs2).mono ?_); rintro _ w1 ⟨bB, dB, xB, yB, rfl, eB, fB, HB⟩; replace H := HB.onto H; clear HB; simp only [List.cons_append, List.nil_append] at H) | ((with_reducible refine (split_n1 _).mono ?_); rintro _ w1 ⟨bC, dC, xC, rfl, eC, HB⟩; replace H := HB.onto H; clear HB; simp only [List.cons_append, List.nil_append] at H) | ((with_reducible refine (split_n0 641 _ _ _ (by decide)).mono ?_); rintro _ w1 ⟨BD, dD, rfl, hb⟩; replace H := H.call hb; clear hb) | ((with_reducible refine (hnew_2 _).mono ?_); rintro _ w1 ⟨gh, gm, rfl, HB⟩; replace H := HB.onto H; clear HB; simp only [List.cons_append, List.nil_append] at H) | ((with_reducible refine (hmiss_2 gh gm _ (hm_new H)).mono ?_); rintro _ w1 ⟨bM, cM, rfl, HB⟩; replace H := HB.onto H; clear HB; simp only [List.cons_append, List.nil_append] at H; have qA0 := H.cell1 (f := fun x : Ch => .slice x.A x.l.length x.c) 6 rfl 0 rfl; have qA1 := H.cell1 (f := fun x : Ch => .slice x.A x.l.length x.c) 6 rfl 1 rfl; have qB0 := H.cell1 (f := fun x : Ch => .slice x.A x.l.length x.c) 7 rfl 0 rfl; have qB1 := H.cell1 (f := fun x : Ch => .slice x.A x.l.length x.c) 7 rfl 1 rfl; have qC0 := H.cell1 (f := fun x : Ch => .slice x.A x.l.length x.c) 8 rfl 0 rfl; have qM0 := H.cell1 (f := fun x : Int => .int .i64 x) 0 rfl 0 rfl; have qM1 := H.cell1 (f := fun x : Int => .int .i64 x) 0 rfl 1 rfl; rw [eA] at qA0; rw [fA] at qA1; rw [eB] at qB0; rw [fB] at qB1; rw [lC] at qC0) | ((with_reducible refine wl_ldw ?_); refine ⟨rfl, by kernel_rfl, _, rfl, _, ‹_›, ?_⟩; go_frame)))
    go_ret
    exact ⟨rfl, H.below⟩
end Go.Proofs.Ytanpglhpmfdnmaa
