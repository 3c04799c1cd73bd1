/-
  chunk.Heap: what it holds; the walks of what reads it.
-/
import Derived.Test.YtanpglhpmfdnmaaSplB
import Derived.Test.YtanpglhpmfdnmaaChkJ
import Derived.Test.YtanpglhpmfdnmaaMap
namespace Go.Proofs.Ytanpglhpmfdnmaa
open Go.RowKit
set_option linter.unusedVariables false
set_option linter.unusedSimpArgs false
def riC (i : Int) : List Value := [.int .i64 i]
theorem int_sl : Try.prog.underlying 45 = some (.slice 3) := Try.underlying45
theorem int_info : (Try.prog.info? 3).map (fun i => (i.zero, i.size, i.bytes)) = some (some (.int .i64 0), 1, 8) := by kernel_rfl
theorem int_i1 : (Try.prog.info? 3).map (fun i => (i.zero.isSome, i.size)) = some (true, 1) := by kernel_rfl
theorem ri_one (x : Int) : ∀ u ∈ riC x, u.oneCell' = true := by
  intro u hu
  simp only [riC, List.mem_singleton] at hu
  subst hu
  rfl
theorem int_u : Try.prog.underlying 3 = some (.int .i64) := Try.underlying3
theorem map_u : Try.prog.underlying 36 = some (.map 3 22) := Try.underlying36
section
variable {a : Act} {w0 w : World} {Q : Exit → Act → World → Prop} {L : List Item} {ops : Array Oper} {rest : List Oper} {d : Option Tmp} {tt t e : TypeId} {ps : String} {af : Array Edge} {gd : Option (Nat × Bool)} {x y : Operand} {ok : Bool}
/-- a look-up -/
theorem wl_look (h : Region.wanted { dst := d, op := .lookup 36 x y ok, type := tt, pos := ps, after := af, guard := gd } (yielded ops a.tmps) = true ∧ ∃ r k ms cl, a.eval x = .map (some r) ∧ a.eval y = .int .i64 k ∧ w.heap[r]? = some (.map (ms.map mE).toArray cl) ∧
    wpList Try.prog ops Q rest (a.put d (if ok then .tuple #[lookV (.slice none 0 0) k ms, .bool (lookB k ms)] else lookV (.slice none 0 0) k ms)) w) :
    wpList Try.prog ops Q ({ dst := d, op := .lookup 36 x y ok, type := tt, pos := ps, after := af, guard := gd } :: rest) a w := by
  obtain ⟨h1, r, k, ms, cl, hx, hy, hm, hk⟩ := h
  obtain ⟨ti, hti, hz0, hz1, hz2⟩ := info_parts ll_info
  have := run_lookI (P := Try.prog) map_u int_u hti hz0 hm k ok
  exact wl_val _ h1 (by simp [execOp, hx, hy, this]) hk
/-- how many -/
theorem wl_lenM (h : Region.wanted { dst := d, op := .call { callee := .builtin .len, args := #[x], argTypes := #[36] }, type := tt, pos := ps, after := af, guard := gd } (yielded ops a.tmps) = true ∧ ∃ r es cl, a.eval x = .map (some r) ∧ w.heap[r]? = some (.map es cl) ∧ wpList Try.prog ops Q rest (a.put d (.int .i64 es.size)) w) :
    wpList Try.prog ops Q ({ dst := d, op := .call { callee := .builtin .len, args := #[x], argTypes := #[36] }, type := tt, pos := ps, after := af, guard := gd } :: rest) a w := by
  obtain ⟨h1, r, es, cl, hx, hm, hk⟩ := h
  have := run_lenI (P := Try.prog) map_u hm tt
  refine wl_val _ h1 ?_ hk
  unfold execOp
  simp only [resolve, invoke, builtin, Sem.run_bind, Sem.run_pure, Result.andThen_ok, List.map_toArray, List.map_cons, List.map_nil, hx, this]
/-- a slice of one cell -/
theorem Hp.bslc (H : Hp w0 w L) {P : Program} (ht : P.underlying t = some (.slice e)) (hi : (P.info? e).map (fun i => (i.zero.isSome, i.size)) = some (true, 1))
    (h : Region.wanted { dst := d, op := .buildSlice t 1 #[(0, x)], type := tt, pos := ps, after := af, guard := gd } (yielded ops a.tmps) = true ∧ ∃ v, a.eval x = v ∧ v.oneCell' = true ∧ ∀ g w', Hp w0 w' (.blk g e [v] :: L) → wpList P ops Q rest (a.put d (.slice (some ⟨g, 0, none⟩) 1 1)) w') :
    wpList P ops Q ({ dst := d, op := .buildSlice t 1 #[(0, x)], type := tt, pos := ps, after := af, guard := gd } :: rest) a w := by
  obtain ⟨h1, v, hx, h2, hk⟩ := h
  refine BigFrame.wpList_want h1 fun K hK => ?_
  exact hw_bslc rfl ht hi hx h2 H (fun g w' H => hK _ _ (hk g w' H))
/-- a map is made -/
theorem Hp.mkMap (H : Hp w0 w L) {P : Program} (h : Region.wanted { dst := d, op := .makeMap t none, type := tt, pos := ps, after := af, guard := gd } (yielded ops a.tmps) = true ∧ ∀ g w', Hp w0 w' (.obj g (.map #[] 0) :: L) → wpList P ops Q rest (a.put d (.map (some g))) w') :
    wpList P ops Q ({ dst := d, op := .makeMap t none, type := tt, pos := ps, after := af, guard := gd } :: rest) a w := by
  obtain ⟨h1, hk⟩ := h
  refine BigFrame.wpList_want h1 fun K hK => ?_
  unfold Oper.wp
  simp only [execOp, Option.map_none, run_makeI, Sem.run_bind, Result.andThen_ok, Sem.run_pure]
  exact hK _ _ (hk _ _ (H.newObj _))
end
/-- what a heap of chunks holds: how many there may be; the chunks, each with its number -/
abbrev MCh := Int × Ch × Nat
structure Hs where
  n : Nat
  ms : List MCh
  cl : Nat
def hmE (x : MCh) : En3 := (x.1, .slice x.2.1.A x.2.1.l.length x.2.1.c, x.2.2)
def Hs.es (s : Hs) : List En3 := s.ms.map hmE
def getM (k : Int) : List MCh → Option Ch
  | [] => none
  | x :: ms => if k = x.1 then some x.2.1 else getM k ms
def Hs.get (s : Hs) (k : Int) : Option Ch := getM k s.ms
theorem lookI_get (k : Int) : ∀ (ms : List MCh) (i : Nat), (lookI k (ms.map hmE) i).map (·.2) = (getM k ms).map (fun x => Value.slice x.A x.l.length x.c)
  | [], _ => rfl
  | x :: ms, i => by
    rw [List.map_cons, lookI, getM]
    by_cases h : k = x.1
    · rw [if_pos h, if_pos (show k = (hmE x).1 from h)]
      rfl
    · rw [if_neg h, if_neg (show ¬ k = (hmE x).1 from h)]
      exact lookI_get k ms (i + 1)
theorem look_some {s : Hs} {k : Int} {x : Ch} (h : s.get k = some x) : lookV (.slice none 0 0) k s.es = .slice x.A x.l.length x.c ∧ lookB k s.es = true := by
  have := lookI_get k s.ms 0
  rw [show getM k s.ms = some x from h] at this
  unfold lookV lookB Hs.es
  cases e : lookI k (s.ms.map hmE) 0 with
  | none => rw [e] at this; cases this
  | some p =>
    rw [e] at this
    injection this with this
    exact ⟨this, rfl⟩
theorem look_none {s : Hs} {k : Int} (h : s.get k = none) : lookV (.slice none 0 0) k s.es = .slice none 0 0 ∧ lookB k s.es = false := by
  have := lookI_get k s.ms 0
  rw [show getM k s.ms = none from h] at this
  unfold lookV lookB Hs.es
  cases e : lookI k (s.ms.map hmE) 0 with
  | none => exact ⟨rfl, rfl⟩
  | some p => rw [e] at this; cases this
theorem getM_mem {k : Int} {x : Ch} : ∀ {ms : List MCh}, getM k ms = some x → ∃ y ∈ ms, y.2.1 = x
  | [], h => by cases h
  | y :: ms, h => by
    rw [getM] at h
    by_cases e : k = y.1
    · rw [if_pos e] at h
      injection h with h
      exact ⟨y, List.mem_cons_self, h⟩
    · rw [if_neg e] at h
      obtain ⟨z, hz, hx⟩ := getM_mem h
      exact ⟨z, List.mem_cons_of_mem _ hz, hx⟩
/-- a heap in memory, as it is read -/
structure HM (w : World) (gh gm : Nat) (s : Hs) : Prop where
  c0 : w.cell? ⟨gh, 0, none⟩ = some (.int .i64 s.n)
  c1 : w.cell? ⟨gh, 1, none⟩ = some (.map (some gm))
  m : w.heap[gm]? = some (.map (s.es.map mE).toArray s.cl)
  r : ∀ x ∈ s.ms, Rd w x.2.1.A x.2.1.l ∧ x.2.1.l.length ≤ 1000
theorem HM.below {w w' : World} {gh gm : Nat} {s : Hs} (h : HM w gh gm s) (hb : Below w.heap.size w w') : HM w' gh gm s :=
  ⟨(hb.cell (World.block_lt_of_cell? _ _ h.c0)).trans h.c0, (hb.cell (World.block_lt_of_cell? _ _ h.c1)).trans h.c1, (hb.block _ (Array.getElem?_eq_some_iff.1 h.m).1).trans h.m, fun x hx => ⟨(h.r x hx).1.below hb, (h.r x hx).2⟩⟩
set_option maxHeartbeats 400000 in
theorem hnone_made (g : Nat) (n : Nat) (w : World) (hc : w.cell? ⟨g, 0, none⟩ = some (.int .i64 n)) (hn : ((n : Int) == 0) = false) : Calls Try.prog 37 #[.pointer (some ⟨g, 0, none⟩)] w (RetV w (.bool false)) := by
  have H := Hp.nil w
  go_enter Try.func37, Try.ntmps37
  go_wp2_with (first | ((with_reducible refine Hp.ldo H ?_); refine ⟨rfl, ?_⟩; refine ⟨c_look rfl, ?_⟩; refine ⟨_, rfl, ?_⟩; refine ⟨_, ‹_›, ?_⟩; go_frame))
  go_ret
  exact ⟨rfl, Below.refl _ _⟩
/-- new bytes; whether -/
def RetBB (w : World) (l : List UInt8) (b : Bool) (e : Ending) (w' : World) : Prop := ∃ A c, e = .returned (.tuple #[.slice A l.length c, .bool b]) ∧ Own w' w.heap.size A c l ∧ Below w.heap.size w w'
def Hs.getL (s : Hs) (k : Int) : List UInt8 := match s.get k with | some x => x.l | none => []
set_option maxHeartbeats 1000000 in
theorem hget_any (gh gm : Nat) (s : Hs) (k : Int) (w : World) (hM : HM w gh gm s) (hn : 0 < s.n) : Calls Try.prog 16 #[.pointer (some ⟨gh, 0, none⟩), .int .i64 k] w (RetBB w (s.getL k) (s.get k).isSome) := by
  have H := Hp.nil w
  have hn0 : ((s.n : Int) == 0) = false := by rw [beq_eq_false_iff_ne]; omega
  have hc1 := hM.c1
  cases hg : s.get k with
  | some x =>
    have hlk := look_some hg
    obtain ⟨y, hy, rfl⟩ := getM_mem hg
    obtain ⟨x, hx⟩ : ∃ x, y.2.1 = x := ⟨_, rfl⟩
    have hr := (hM.r y hy).1
    have hl := (hM.r y hy).2
    rw [hx] at hlk hr hl
    have e : s.getL k = x.l := by unfold Hs.getL; rw [hg, hx]
    rw [e]
    clear hg e hx hy
    go_enter Try.func16, Try.ntmps16
    go_wp2_with (first | ((with_reducible refine Hp.box H ?_); (first | refine ⟨rfl, [.pointer _], rfl, ?_⟩ | refine ⟨rfl, [.int _ _], rfl, ?_⟩ | refine ⟨rfl, [.slice _ _ _], rfl, ?_⟩ | refine ⟨rfl, [.bool _], rfl, ?_⟩ | refine ⟨rfl, [.string _], rfl, ?_⟩ | refine ⟨rfl, _, rfl, ?_⟩); (clear H; intro g1 w1 H); go_frame) | ((with_reducible refine Hp.allo H ?_); refine ⟨rfl, ?_⟩; refine ⟨_, z_look rfl, ?_⟩; (clear H; intro g1 w1 H); go_frame) | ((with_reducible refine Hp.ld H ?_); refine ⟨rfl, ?_⟩; refine ⟨c_look rfl, ?_⟩; refine ⟨_, _, rfl, ?_⟩; ((repeat ((fail_if_success refine ⟨_, _, _, .z, ?_⟩); refine hs ?_)); refine ⟨_, _, _, .z, ?_⟩); refine ⟨_, rfl, ?_⟩; go_frame) | ((with_reducible refine Hp.lda H ?_); refine ⟨rfl, by kernel_rfl, ?_⟩; refine ⟨_, s_look rfl, ?_⟩; refine ⟨_, rfl, ?_⟩; ((repeat ((fail_if_success refine ⟨_, _, _, .z, ?_⟩); refine hs ?_)); refine ⟨_, _, _, .z, ?_⟩); refine ⟨rfl, ?_⟩; go_frame) | ((with_reducible refine Hp.lds H ?_); refine ⟨rfl, by kernel_rfl, ?_⟩; refine ⟨_, s_look rfl, ?_⟩; refine ⟨_, _, rfl, ?_⟩; ((repeat ((fail_if_success refine ⟨_, _, _, .z, ?_⟩); refine hs ?_)); refine ⟨_, _, _, .z, ?_⟩); (first | refine ⟨[_, _], rfl, rfl, ?_⟩ | refine ⟨[_, _, _, _], rfl, rfl, ?_⟩ | refine ⟨[_, _, _, _, _, _, _], rfl, rfl, ?_⟩ | refine ⟨[_, _, _], rfl, rfl, ?_⟩ | (fail)); go_frame) | ((with_reducible refine Hp.sto H ?_); refine ⟨rfl, ?_⟩; refine ⟨c_look rfl, ?_⟩; refine ⟨_, _, rfl, ?_⟩; ((repeat ((fail_if_success refine ⟨_, _, _, .z, ?_⟩); refine hs ?_)); refine ⟨_, _, _, .z, ?_⟩); refine ⟨⟨_, rfl⟩, rfl, ?_⟩; (clear H; intro w1 H; simp only [List.set] at H); go_frame) | ((with_reducible refine Hp.sta H ?_); refine ⟨rfl, ?_⟩; refine ⟨_, s_look rfl, ?_⟩; refine ⟨_, rfl, _, rfl, rfl, ?_⟩; ((repeat ((fail_if_success refine ⟨_, _, _, .z, ?_⟩); refine hs ?_)); refine ⟨_, _, _, .z, ?_⟩); refine ⟨rfl, rfl, ?_⟩; (clear H; intro w1 H; simp only [List.set] at H); go_frame) | ((with_reducible refine Hp.str H ?_); refine ⟨rfl, ?_⟩; refine ⟨_, s_look rfl, ?_⟩; refine ⟨_, _, rfl, _, rfl, rfl, ?_⟩; ((repeat ((fail_if_success refine ⟨_, _, _, .z, ?_⟩); refine hs ?_)); refine ⟨_, _, _, .z, ?_⟩); refine ⟨rfl, _, rfl, _, rfl, Nat.le_of_ble_eq_true rfl, ?_⟩; (clear H; intro w1 H; simp only [List.set] at H); go_frame) | ((with_reducible refine Hp.bdl H ?_); (fail); go_frame) | ((with_reducible refine (hnone_made gh s.n _ (hM.below H.below).c0 hn0).mono ?_); rintro _ w1 ⟨rfl, hb⟩; replace H := H.call hb; clear hb) | ((with_reducible refine Hp.ldo H ?_); refine ⟨rfl, ?_⟩; refine ⟨c_look rfl, ?_⟩; refine ⟨_, rfl, ?_⟩; refine ⟨_, ‹_›, ?_⟩; go_frame) | ((with_reducible refine wl_look ?_); refine ⟨rfl, gm, k, s.es, s.cl, rfl, rfl, (hM.below H.below).m, ?_⟩; (try rw [hlk.1, hlk.2]); (try rw [hlk.1]); go_frame) | ((with_reducible refine (clone_any x.A x.c x.l _ (hr.below H.below) (by omega)).mono ?_); rintro _ w1 ⟨A1, c1, rfl, hown, hb⟩; replace H := H.callOwn hb hown; clear hb hown))
    go_ret2
    exact ⟨A1, c1, rfl, H.o 0 rfl, H.below⟩
  | none =>
    have hlk := look_none hg
    have e : s.getL k = [] := by unfold Hs.getL; rw [hg]
    rw [e]
    clear hg e
    go_enter Try.func16, Try.ntmps16
    go_wp2_with (first | ((with_reducible refine Hp.box H ?_); (first | refine ⟨rfl, [.pointer _], rfl, ?_⟩ | refine ⟨rfl, [.int _ _], rfl, ?_⟩ | refine ⟨rfl, [.slice _ _ _], rfl, ?_⟩ | refine ⟨rfl, [.bool _], rfl, ?_⟩ | refine ⟨rfl, [.string _], rfl, ?_⟩ | refine ⟨rfl, _, rfl, ?_⟩); (clear H; intro g1 w1 H); go_frame) | ((with_reducible refine Hp.allo H ?_); refine ⟨rfl, ?_⟩; refine ⟨_, z_look rfl, ?_⟩; (clear H; intro g1 w1 H); go_frame) | ((with_reducible refine Hp.ld H ?_); refine ⟨rfl, ?_⟩; refine ⟨c_look rfl, ?_⟩; refine ⟨_, _, rfl, ?_⟩; ((repeat ((fail_if_success refine ⟨_, _, _, .z, ?_⟩); refine hs ?_)); refine ⟨_, _, _, .z, ?_⟩); refine ⟨_, rfl, ?_⟩; go_frame) | ((with_reducible refine Hp.lda H ?_); refine ⟨rfl, by kernel_rfl, ?_⟩; refine ⟨_, s_look rfl, ?_⟩; refine ⟨_, rfl, ?_⟩; ((repeat ((fail_if_success refine ⟨_, _, _, .z, ?_⟩); refine hs ?_)); refine ⟨_, _, _, .z, ?_⟩); refine ⟨rfl, ?_⟩; go_frame) | ((with_reducible refine Hp.lds H ?_); refine ⟨rfl, by kernel_rfl, ?_⟩; refine ⟨_, s_look rfl, ?_⟩; refine ⟨_, _, rfl, ?_⟩; ((repeat ((fail_if_success refine ⟨_, _, _, .z, ?_⟩); refine hs ?_)); refine ⟨_, _, _, .z, ?_⟩); (first | refine ⟨[_, _], rfl, rfl, ?_⟩ | refine ⟨[_, _, _, _], rfl, rfl, ?_⟩ | refine ⟨[_, _, _, _, _, _, _], rfl, rfl, ?_⟩ | refine ⟨[_, _, _], rfl, rfl, ?_⟩ | (fail)); go_frame) | ((with_reducible refine Hp.sto H ?_); refine ⟨rfl, ?_⟩; refine ⟨c_look rfl, ?_⟩; refine ⟨_, _, rfl, ?_⟩; ((repeat ((fail_if_success refine ⟨_, _, _, .z, ?_⟩); refine hs ?_)); refine ⟨_, _, _, .z, ?_⟩); refine ⟨⟨_, rfl⟩, rfl, ?_⟩; (clear H; intro w1 H; simp only [List.set] at H); go_frame) | ((with_reducible refine Hp.sta H ?_); refine ⟨rfl, ?_⟩; refine ⟨_, s_look rfl, ?_⟩; refine ⟨_, rfl, _, rfl, rfl, ?_⟩; ((repeat ((fail_if_success refine ⟨_, _, _, .z, ?_⟩); refine hs ?_)); refine ⟨_, _, _, .z, ?_⟩); refine ⟨rfl, rfl, ?_⟩; (clear H; intro w1 H; simp only [List.set] at H); go_frame) | ((with_reducible refine Hp.str H ?_); refine ⟨rfl, ?_⟩; refine ⟨_, s_look rfl, ?_⟩; refine ⟨_, _, rfl, _, rfl, rfl, ?_⟩; ((repeat ((fail_if_success refine ⟨_, _, _, .z, ?_⟩); refine hs ?_)); refine ⟨_, _, _, .z, ?_⟩); refine ⟨rfl, _, rfl, _, rfl, Nat.le_of_ble_eq_true rfl, ?_⟩; (clear H; intro w1 H; simp only [List.set] at H); go_frame) | ((with_reducible refine Hp.bdl H ?_); (fail); go_frame) | ((with_reducible refine (hnone_made gh s.n _ (hM.below H.below).c0 hn0).mono ?_); rintro _ w1 ⟨rfl, hb⟩; replace H := H.call hb; clear hb) | ((with_reducible refine Hp.ldo H ?_); refine ⟨rfl, ?_⟩; refine ⟨c_look rfl, ?_⟩; refine ⟨_, rfl, ?_⟩; refine ⟨_, ‹_›, ?_⟩; go_frame) | ((with_reducible refine wl_look ?_); refine ⟨rfl, gm, k, s.es, s.cl, rfl, rfl, (hM.below H.below).m, ?_⟩; (try rw [hlk.1, hlk.2]); (try rw [hlk.1]); go_frame) | ((with_reducible refine (clone_n none 0 [] 0 _ (Rd.nil _ _) (by decide) rfl).mono ?_); rintro _ w1 ⟨A1, c1, rfl, hown, hb⟩; replace H := H.callOwn hb hown; clear hb hown))
    go_ret2
    exact ⟨A1, c1, rfl, H.o 0 rfl, H.below⟩
/-- new numbers -/
def RetInts (w : World) (l : List Int) (e : Ending) (w' : World) : Prop := ∃ A c, e = .returned (.slice A l.length c) ∧ Hp w w' [.rows 3 1 riC A c l]
/-- which are missing, of the first k -/
def Hs.miss (s : Hs) (k : Nat) : List Int := ((List.range k).filter (fun (i : Nat) => (s.get (i : Int)).isNone)).map (fun (i : Nat) => (i : Int))
theorem miss_succ (s : Hs) (k : Nat) : s.miss (k + 1) = if (s.get (k : Int)).isNone then s.miss k ++ [(k : Int)] else s.miss k := by
  unfold Hs.miss
  rw [List.range_succ, List.filter_append, List.map_append]
  cases h : (s.get (k : Int)).isNone <;> simp [h]
theorem miss_le (s : Hs) (k : Nat) : (s.miss k).length ≤ k := by
  unfold Hs.miss
  rw [List.length_map]
  exact Nat.le_trans (List.length_filter_le _ _) (by simp)
set_option maxHeartbeats 1000000 in
theorem hmiss_any (gh gm : Nat) (s : Hs) (w : World) (hM : HM w gh gm s) (hn : 0 < s.n) (hn8 : s.n ≤ 1000) : Calls Try.prog 20 #[.pointer (some ⟨gh, 0, none⟩)] w (RetInts w (s.miss s.n)) := by
  have H := (Hp.nil w).nilRow 3 1
  have hn0 : ((s.n : Int) == 0) = false := by rw [beq_eq_false_iff_ne]; omega
  have hc1 := hM.c1
  have hc0 := hM.c0
  have hlk := True.intro
  have hml := True.intro
  go_enter Try.func20, Try.ntmps20
  go_wp2_with (first | ((with_reducible refine Hp.box H ?_); (first | refine ⟨rfl, [.pointer _], rfl, ?_⟩ | refine ⟨rfl, [.int _ _], rfl, ?_⟩ | refine ⟨rfl, [.slice _ _ _], rfl, ?_⟩ | refine ⟨rfl, [.bool _], rfl, ?_⟩ | refine ⟨rfl, [.string _], rfl, ?_⟩ | refine ⟨rfl, _, rfl, ?_⟩); (clear H; intro g1 w1 H); go_frame) | ((with_reducible refine Hp.allo H ?_); refine ⟨rfl, ?_⟩; refine ⟨_, z_look rfl, ?_⟩; (clear H; intro g1 w1 H); go_frame) | ((with_reducible refine Hp.ld H ?_); refine ⟨rfl, ?_⟩; refine ⟨c_look rfl, ?_⟩; refine ⟨_, _, rfl, ?_⟩; ((repeat ((fail_if_success refine ⟨_, _, _, .z, ?_⟩); refine hs ?_)); refine ⟨_, _, _, .z, ?_⟩); refine ⟨_, rfl, ?_⟩; go_frame) | ((with_reducible refine Hp.lda H ?_); refine ⟨rfl, by kernel_rfl, ?_⟩; refine ⟨_, s_look rfl, ?_⟩; refine ⟨_, rfl, ?_⟩; ((repeat ((fail_if_success refine ⟨_, _, _, .z, ?_⟩); refine hs ?_)); refine ⟨_, _, _, .z, ?_⟩); refine ⟨rfl, ?_⟩; go_frame) | ((with_reducible refine Hp.lds H ?_); refine ⟨rfl, by kernel_rfl, ?_⟩; refine ⟨_, s_look rfl, ?_⟩; refine ⟨_, _, rfl, ?_⟩; ((repeat ((fail_if_success refine ⟨_, _, _, .z, ?_⟩); refine hs ?_)); refine ⟨_, _, _, .z, ?_⟩); (first | refine ⟨[_, _], rfl, rfl, ?_⟩ | refine ⟨[_, _, _, _], rfl, rfl, ?_⟩ | refine ⟨[_, _, _, _, _, _, _], rfl, rfl, ?_⟩ | refine ⟨[_, _, _], rfl, rfl, ?_⟩ | (fail)); go_frame) | ((with_reducible refine Hp.sto H ?_); refine ⟨rfl, ?_⟩; refine ⟨c_look rfl, ?_⟩; refine ⟨_, _, rfl, ?_⟩; ((repeat ((fail_if_success refine ⟨_, _, _, .z, ?_⟩); refine hs ?_)); refine ⟨_, _, _, .z, ?_⟩); refine ⟨⟨_, rfl⟩, rfl, ?_⟩; (clear H; intro w1 H; simp only [List.set] at H); go_frame) | ((with_reducible refine Hp.sta H ?_); refine ⟨rfl, ?_⟩; refine ⟨_, s_look rfl, ?_⟩; refine ⟨_, rfl, _, rfl, rfl, ?_⟩; ((repeat ((fail_if_success refine ⟨_, _, _, .z, ?_⟩); refine hs ?_)); refine ⟨_, _, _, .z, ?_⟩); refine ⟨rfl, rfl, ?_⟩; (clear H; intro w1 H; simp only [List.set] at H); go_frame) | ((with_reducible refine Hp.str H ?_); refine ⟨rfl, ?_⟩; refine ⟨_, s_look rfl, ?_⟩; refine ⟨_, _, rfl, _, rfl, rfl, ?_⟩; ((repeat ((fail_if_success refine ⟨_, _, _, .z, ?_⟩); refine hs ?_)); refine ⟨_, _, _, .z, ?_⟩); refine ⟨rfl, _, rfl, _, rfl, Nat.le_of_ble_eq_true rfl, ?_⟩; (clear H; intro w1 H; simp only [List.set] at H); go_frame) | ((with_reducible refine Hp.bdl H ?_); (fail); go_frame) | ((with_reducible refine (hnone_made gh s.n _ (hM.below H.below).c0 hn0).mono ?_); rintro _ w1 ⟨rfl, hb⟩; replace H := H.call hb; clear hb) | ((with_reducible refine Hp.ldo H ?_); refine ⟨rfl, ?_⟩; refine ⟨c_look rfl, ?_⟩; refine ⟨_, rfl, ?_⟩; refine ⟨_, ‹_›, ?_⟩; go_frame) | ((with_reducible refine wl_look ?_); refine ⟨rfl, gm, _, s.es, s.cl, rfl, rfl, (hM.below H.below).m, ?_⟩; rw [hlk.1, hlk.2]; go_frame) | ((with_reducible refine Hp.bslc H int_sl int_i1 ?_); refine ⟨rfl, _, rfl, rfl, ?_⟩; (clear H; intro g1 w1 H); go_frame) | (at_builtin; (with_reducible refine Hp.wlAppRow H int_sl int_info rfl rfl rfl ?_); refine ⟨1, _, _, _, _, rfl, rfl, 0, _, _, _, riC _, rfl, rfl, rfl, ri_one _, hml, ?_⟩; (clear H; intro A1 c1 w1 H); simp only [List.set_cons_succ, List.set_cons_zero] at H; replace H := H.tail))
  go_loopw [3, 13] (fun v i wr => ∃ (k : Nat) (A : Option Addr) (c : Nat), k ≤ s.n ∧ i = .int .i64 k ∧ v = .slice A (s.miss k).length c ∧ Hp w wr [.rows 3 1 riC A c (s.miss k)]) (fun _ i _ => s.n - (intOf i).toNat)
  case atStart => exact ⟨0, none, 0, Nat.zero_le _, rfl, rfl, H⟩
  case round =>
    clear H hlk hml
    obtain ⟨k, A, c, hk, rfl, rfl, H⟩ := hrel
    by_cases hlt : k < s.n
    · have hms := miss_succ s k
      have hml0 := miss_le s k
      have hml : (s.miss k).length ≤ 1000000 := by omega
      clear hml0
      have HMS := Lib.hid hms
      clear hms
      obtain ⟨l, hl⟩ : ∃ l, s.miss k = l := ⟨_, rfl⟩
      have HL := Lib.hid hl
      rw [hl] at H hml ⊢
      clear hl
      cases hg : s.get (k : Int) with
      | some x =>
        have hlk := look_some hg
        have HG := Lib.hid hg
        clear hg
        go_wp2_with (first | ((with_reducible refine Hp.box H ?_); (first | refine ⟨rfl, [.pointer _], rfl, ?_⟩ | refine ⟨rfl, [.int _ _], rfl, ?_⟩ | refine ⟨rfl, [.slice _ _ _], rfl, ?_⟩ | refine ⟨rfl, [.bool _], rfl, ?_⟩ | refine ⟨rfl, [.string _], rfl, ?_⟩ | refine ⟨rfl, _, rfl, ?_⟩); (clear H; intro g1 w1 H); go_frame) | ((with_reducible refine Hp.allo H ?_); refine ⟨rfl, ?_⟩; refine ⟨_, z_look rfl, ?_⟩; (clear H; intro g1 w1 H); go_frame) | ((with_reducible refine Hp.ld H ?_); refine ⟨rfl, ?_⟩; refine ⟨c_look rfl, ?_⟩; refine ⟨_, _, rfl, ?_⟩; ((repeat ((fail_if_success refine ⟨_, _, _, .z, ?_⟩); refine hs ?_)); refine ⟨_, _, _, .z, ?_⟩); refine ⟨_, rfl, ?_⟩; go_frame) | ((with_reducible refine Hp.lda H ?_); refine ⟨rfl, by kernel_rfl, ?_⟩; refine ⟨_, s_look rfl, ?_⟩; refine ⟨_, rfl, ?_⟩; ((repeat ((fail_if_success refine ⟨_, _, _, .z, ?_⟩); refine hs ?_)); refine ⟨_, _, _, .z, ?_⟩); refine ⟨rfl, ?_⟩; go_frame) | ((with_reducible refine Hp.lds H ?_); refine ⟨rfl, by kernel_rfl, ?_⟩; refine ⟨_, s_look rfl, ?_⟩; refine ⟨_, _, rfl, ?_⟩; ((repeat ((fail_if_success refine ⟨_, _, _, .z, ?_⟩); refine hs ?_)); refine ⟨_, _, _, .z, ?_⟩); (first | refine ⟨[_, _], rfl, rfl, ?_⟩ | refine ⟨[_, _, _, _], rfl, rfl, ?_⟩ | refine ⟨[_, _, _, _, _, _, _], rfl, rfl, ?_⟩ | refine ⟨[_, _, _], rfl, rfl, ?_⟩ | (fail)); go_frame) | ((with_reducible refine Hp.sto H ?_); refine ⟨rfl, ?_⟩; refine ⟨c_look rfl, ?_⟩; refine ⟨_, _, rfl, ?_⟩; ((repeat ((fail_if_success refine ⟨_, _, _, .z, ?_⟩); refine hs ?_)); refine ⟨_, _, _, .z, ?_⟩); refine ⟨⟨_, rfl⟩, rfl, ?_⟩; (clear H; intro w1 H; simp only [List.set] at H); go_frame) | ((with_reducible refine Hp.sta H ?_); refine ⟨rfl, ?_⟩; refine ⟨_, s_look rfl, ?_⟩; refine ⟨_, rfl, _, rfl, rfl, ?_⟩; ((repeat ((fail_if_success refine ⟨_, _, _, .z, ?_⟩); refine hs ?_)); refine ⟨_, _, _, .z, ?_⟩); refine ⟨rfl, rfl, ?_⟩; (clear H; intro w1 H; simp only [List.set] at H); go_frame) | ((with_reducible refine Hp.str H ?_); refine ⟨rfl, ?_⟩; refine ⟨_, s_look rfl, ?_⟩; refine ⟨_, _, rfl, _, rfl, rfl, ?_⟩; ((repeat ((fail_if_success refine ⟨_, _, _, .z, ?_⟩); refine hs ?_)); refine ⟨_, _, _, .z, ?_⟩); refine ⟨rfl, _, rfl, _, rfl, Nat.le_of_ble_eq_true rfl, ?_⟩; (clear H; intro w1 H; simp only [List.set] at H); go_frame) | ((with_reducible refine Hp.bdl H ?_); (fail); go_frame) | ((with_reducible refine (hnone_made gh s.n _ (hM.below H.below).c0 hn0).mono ?_); rintro _ w1 ⟨rfl, hb⟩; replace H := H.call hb; clear hb) | ((with_reducible refine Hp.ldo H ?_); refine ⟨rfl, ?_⟩; refine ⟨c_look rfl, ?_⟩; refine ⟨_, rfl, ?_⟩; refine ⟨_, ‹_›, ?_⟩; go_frame) | ((with_reducible refine wl_look ?_); refine ⟨rfl, gm, _, s.es, s.cl, rfl, rfl, (hM.below H.below).m, ?_⟩; rw [hlk.1, hlk.2]; go_frame) | ((with_reducible refine Hp.bslc H int_sl int_i1 ?_); refine ⟨rfl, _, rfl, rfl, ?_⟩; (clear H; intro g1 w1 H); go_frame) | (at_builtin; (with_reducible refine Hp.wlAppRow H int_sl int_info rfl rfl rfl ?_); refine ⟨1, _, _, _, _, rfl, rfl, 0, _, _, _, riC _, rfl, rfl, rfl, ri_one _, hml, ?_⟩; (clear H; intro A1 c1 w1 H); simp only [List.set_cons_succ, List.set_cons_zero] at H; replace H := H.tail))
        go_roundw
        case measure => simp [intOf]; omega
        case rel =>
          refine ⟨k + 1, A, c, hlt, by go_num, ?_, ?_⟩
          · rw [HMS.out, HG.out, ← HL.out]; rfl
          · rw [HMS.out, HG.out, HL.out]; exact H
      | none =>
        have hlk := look_none hg
        have HG := Lib.hid hg
        clear hg
        go_wp2_with (first | ((with_reducible refine Hp.box H ?_); (first | refine ⟨rfl, [.pointer _], rfl, ?_⟩ | refine ⟨rfl, [.int _ _], rfl, ?_⟩ | refine ⟨rfl, [.slice _ _ _], rfl, ?_⟩ | refine ⟨rfl, [.bool _], rfl, ?_⟩ | refine ⟨rfl, [.string _], rfl, ?_⟩ | refine ⟨rfl, _, rfl, ?_⟩); (clear H; intro g1 w1 H); go_frame) | ((with_reducible refine Hp.allo H ?_); refine ⟨rfl, ?_⟩; refine ⟨_, z_look rfl, ?_⟩; (clear H; intro g1 w1 H); go_frame) | ((with_reducible refine Hp.ld H ?_); refine ⟨rfl, ?_⟩; refine ⟨c_look rfl, ?_⟩; refine ⟨_, _, rfl, ?_⟩; ((repeat ((fail_if_success refine ⟨_, _, _, .z, ?_⟩); refine hs ?_)); refine ⟨_, _, _, .z, ?_⟩); refine ⟨_, rfl, ?_⟩; go_frame) | ((with_reducible refine Hp.lda H ?_); refine ⟨rfl, by kernel_rfl, ?_⟩; refine ⟨_, s_look rfl, ?_⟩; refine ⟨_, rfl, ?_⟩; ((repeat ((fail_if_success refine ⟨_, _, _, .z, ?_⟩); refine hs ?_)); refine ⟨_, _, _, .z, ?_⟩); refine ⟨rfl, ?_⟩; go_frame) | ((with_reducible refine Hp.lds H ?_); refine ⟨rfl, by kernel_rfl, ?_⟩; refine ⟨_, s_look rfl, ?_⟩; refine ⟨_, _, rfl, ?_⟩; ((repeat ((fail_if_success refine ⟨_, _, _, .z, ?_⟩); refine hs ?_)); refine ⟨_, _, _, .z, ?_⟩); (first | refine ⟨[_, _], rfl, rfl, ?_⟩ | refine ⟨[_, _, _, _], rfl, rfl, ?_⟩ | refine ⟨[_, _, _, _, _, _, _], rfl, rfl, ?_⟩ | refine ⟨[_, _, _], rfl, rfl, ?_⟩ | (fail)); go_frame) | ((with_reducible refine Hp.sto H ?_); refine ⟨rfl, ?_⟩; refine ⟨c_look rfl, ?_⟩; refine ⟨_, _, rfl, ?_⟩; ((repeat ((fail_if_success refine ⟨_, _, _, .z, ?_⟩); refine hs ?_)); refine ⟨_, _, _, .z, ?_⟩); refine ⟨⟨_, rfl⟩, rfl, ?_⟩; (clear H; intro w1 H; simp only [List.set] at H); go_frame) | ((with_reducible refine Hp.sta H ?_); refine ⟨rfl, ?_⟩; refine ⟨_, s_look rfl, ?_⟩; refine ⟨_, rfl, _, rfl, rfl, ?_⟩; ((repeat ((fail_if_success refine ⟨_, _, _, .z, ?_⟩); refine hs ?_)); refine ⟨_, _, _, .z, ?_⟩); refine ⟨rfl, rfl, ?_⟩; (clear H; intro w1 H; simp only [List.set] at H); go_frame) | ((with_reducible refine Hp.str H ?_); refine ⟨rfl, ?_⟩; refine ⟨_, s_look rfl, ?_⟩; refine ⟨_, _, rfl, _, rfl, rfl, ?_⟩; ((repeat ((fail_if_success refine ⟨_, _, _, .z, ?_⟩); refine hs ?_)); refine ⟨_, _, _, .z, ?_⟩); refine ⟨rfl, _, rfl, _, rfl, Nat.le_of_ble_eq_true rfl, ?_⟩; (clear H; intro w1 H; simp only [List.set] at H); go_frame) | ((with_reducible refine Hp.bdl H ?_); (fail); go_frame) | ((with_reducible refine (hnone_made gh s.n _ (hM.below H.below).c0 hn0).mono ?_); rintro _ w1 ⟨rfl, hb⟩; replace H := H.call hb; clear hb) | ((with_reducible refine Hp.ldo H ?_); refine ⟨rfl, ?_⟩; refine ⟨c_look rfl, ?_⟩; refine ⟨_, rfl, ?_⟩; refine ⟨_, ‹_›, ?_⟩; go_frame) | ((with_reducible refine wl_look ?_); refine ⟨rfl, gm, _, s.es, s.cl, rfl, rfl, (hM.below H.below).m, ?_⟩; rw [hlk.1, hlk.2]; go_frame) | ((with_reducible refine Hp.bslc H int_sl int_i1 ?_); refine ⟨rfl, _, rfl, rfl, ?_⟩; (clear H; intro g1 w1 H); go_frame) | (at_builtin; (with_reducible refine Hp.wlAppRow H int_sl int_info rfl rfl rfl ?_); refine ⟨1, _, _, _, _, rfl, rfl, 0, _, _, _, riC _, rfl, rfl, rfl, ri_one _, hml, ?_⟩; (clear H; intro A1 c1 w1 H); simp only [List.set_cons_succ, List.set_cons_zero] at H; replace H := H.tail))
        go_roundw
        case measure => simp [intOf]; omega
        case rel =>
          have e : s.miss (k + 1) = l ++ [(k : Int)] := by rw [HMS.out, HG.out, HL.out]; rfl
          refine ⟨k + 1, A1, c1, hlt, by go_num, ?_, ?_⟩
          · rw [e, List.length_append]; rfl
          · rw [e]
            have : rowsC riC (l ++ [(k : Int)]) = rowsC riC l ++ riC (k : Int) := rowsC_snoc _ _
            show Hp w _ [.own 3 1 A1 (l ++ [(k : Int)]).length c1 (rowsC riC (l ++ [(k : Int)]))]
            rw [this, List.length_append]
            exact H
    · obtain rfl : k = s.n := by omega
      have hlk := True.intro
      have hml := True.intro
      go_wp2_with (first | ((with_reducible refine Hp.box H ?_); (first | refine ⟨rfl, [.pointer _], rfl, ?_⟩ | refine ⟨rfl, [.int _ _], rfl, ?_⟩ | refine ⟨rfl, [.slice _ _ _], rfl, ?_⟩ | refine ⟨rfl, [.bool _], rfl, ?_⟩ | refine ⟨rfl, [.string _], rfl, ?_⟩ | refine ⟨rfl, _, rfl, ?_⟩); (clear H; intro g1 w1 H); go_frame) | ((with_reducible refine Hp.allo H ?_); refine ⟨rfl, ?_⟩; refine ⟨_, z_look rfl, ?_⟩; (clear H; intro g1 w1 H); go_frame) | ((with_reducible refine Hp.ld H ?_); refine ⟨rfl, ?_⟩; refine ⟨c_look rfl, ?_⟩; refine ⟨_, _, rfl, ?_⟩; ((repeat ((fail_if_success refine ⟨_, _, _, .z, ?_⟩); refine hs ?_)); refine ⟨_, _, _, .z, ?_⟩); refine ⟨_, rfl, ?_⟩; go_frame) | ((with_reducible refine Hp.lda H ?_); refine ⟨rfl, by kernel_rfl, ?_⟩; refine ⟨_, s_look rfl, ?_⟩; refine ⟨_, rfl, ?_⟩; ((repeat ((fail_if_success refine ⟨_, _, _, .z, ?_⟩); refine hs ?_)); refine ⟨_, _, _, .z, ?_⟩); refine ⟨rfl, ?_⟩; go_frame) | ((with_reducible refine Hp.lds H ?_); refine ⟨rfl, by kernel_rfl, ?_⟩; refine ⟨_, s_look rfl, ?_⟩; refine ⟨_, _, rfl, ?_⟩; ((repeat ((fail_if_success refine ⟨_, _, _, .z, ?_⟩); refine hs ?_)); refine ⟨_, _, _, .z, ?_⟩); (first | refine ⟨[_, _], rfl, rfl, ?_⟩ | refine ⟨[_, _, _, _], rfl, rfl, ?_⟩ | refine ⟨[_, _, _, _, _, _, _], rfl, rfl, ?_⟩ | refine ⟨[_, _, _], rfl, rfl, ?_⟩ | (fail)); go_frame) | ((with_reducible refine Hp.sto H ?_); refine ⟨rfl, ?_⟩; refine ⟨c_look rfl, ?_⟩; refine ⟨_, _, rfl, ?_⟩; ((repeat ((fail_if_success refine ⟨_, _, _, .z, ?_⟩); refine hs ?_)); refine ⟨_, _, _, .z, ?_⟩); refine ⟨⟨_, rfl⟩, rfl, ?_⟩; (clear H; intro w1 H; simp only [List.set] at H); go_frame) | ((with_reducible refine Hp.sta H ?_); refine ⟨rfl, ?_⟩; refine ⟨_, s_look rfl, ?_⟩; refine ⟨_, rfl, _, rfl, rfl, ?_⟩; ((repeat ((fail_if_success refine ⟨_, _, _, .z, ?_⟩); refine hs ?_)); refine ⟨_, _, _, .z, ?_⟩); refine ⟨rfl, rfl, ?_⟩; (clear H; intro w1 H; simp only [List.set] at H); go_frame) | ((with_reducible refine Hp.str H ?_); refine ⟨rfl, ?_⟩; refine ⟨_, s_look rfl, ?_⟩; refine ⟨_, _, rfl, _, rfl, rfl, ?_⟩; ((repeat ((fail_if_success refine ⟨_, _, _, .z, ?_⟩); refine hs ?_)); refine ⟨_, _, _, .z, ?_⟩); refine ⟨rfl, _, rfl, _, rfl, Nat.le_of_ble_eq_true rfl, ?_⟩; (clear H; intro w1 H; simp only [List.set] at H); go_frame) | ((with_reducible refine Hp.bdl H ?_); (fail); go_frame) | ((with_reducible refine (hnone_made gh s.n _ (hM.below H.below).c0 hn0).mono ?_); rintro _ w1 ⟨rfl, hb⟩; replace H := H.call hb; clear hb) | ((with_reducible refine Hp.ldo H ?_); refine ⟨rfl, ?_⟩; refine ⟨c_look rfl, ?_⟩; refine ⟨_, rfl, ?_⟩; refine ⟨_, ‹_›, ?_⟩; go_frame) | ((with_reducible refine wl_look ?_); refine ⟨rfl, gm, _, s.es, s.cl, rfl, rfl, (hM.below H.below).m, ?_⟩; rw [hlk.1, hlk.2]; go_frame) | ((with_reducible refine Hp.bslc H int_sl int_i1 ?_); refine ⟨rfl, _, rfl, rfl, ?_⟩; (clear H; intro g1 w1 H); go_frame) | (at_builtin; (with_reducible refine Hp.wlAppRow H int_sl int_info rfl rfl rfl ?_); refine ⟨1, _, _, _, _, rfl, rfl, 0, _, _, _, riC _, rfl, rfl, rfl, ri_one _, hml, ?_⟩; (clear H; intro A1 c1 w1 H); simp only [List.set_cons_succ, List.set_cons_zero] at H; replace H := H.tail))
      go_ret
      exact ⟨A, c, rfl, H⟩
end Go.Proofs.Ytanpglhpmfdnmaa
