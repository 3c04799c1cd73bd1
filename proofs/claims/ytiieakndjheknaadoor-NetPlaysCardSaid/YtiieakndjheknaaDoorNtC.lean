/-
  THE WALKS OF (*net.Net).Copy, slices.Delete, (*net.Net).Take, Drop.
-/
import Derived.Test.YtiieakndjheknaaDoorNtB
import Derived.Test.YtiieakndjheknaaDoorNtH
namespace Go.Proofs.YtiieakndjheknaaDoor
set_option maxRecDepth 100000
open Go.RowKit
set_option linter.unusedVariables false
set_option linter.unusedSimpArgs false
theorem nat_no0 {w0 w : World} {g : Nat} {n : Int} {A : Option Addr} {k c : Nat} {cut : List Bool} {L : List Item} (h0 : k = 0) (H : Hp w0 w (netI g n A k c cut :: L)) (hn0 : (n == 0) = false) (i : Int) : Calls Tryd.prog 33 #[.pointer (some ⟨g, 0, none⟩), .int .i64 i] w (RetH w0 (netI g n A k c cut :: L) (.tuple #[.int .i64 0, .int .i64 280])) := by
  subst h0
  exact nat_no H hn0 i
theorem NetZ.mk0 {w0 w : World} {g : Nat} {n : Int} {A : Option Addr} {c : Nat} {cut : List Bool} {cs fl : List MX} {F Z : List Item} (h1 : fl.map cx = cs) (h2 : Held Z fl) (h3 : cs.length ≤ 200) (h4 : cut.length = 49) (H : Hp w0 w (netI g n A fl.length c cut :: mwI A c fl :: (F ++ Z))) : NetZ w0 w g n cut cs F Z := ⟨A, c, fl, h1, h2, h3, h4, H⟩
theorem natJ_lt {m : Nat} (h : 0 < m) (k : Int) : natJ m k < m := Nat.mod_lt _ h
set_option maxHeartbeats 4000000 in
theorem ncopy_o {w0 w : World} {g : Nat} {n : Int} {cut : List Bool} {cs : List MX} {F Z : List Item} (HN : NetZ w0 w g n cut cs F Z) (hn : crowdB n = true) (i : Int) (hk : i ≤ 9223372036854775807) :
    Calls Tryd.prog 12 #[.pointer (some ⟨g, 0, none⟩), .int .i64 i] w (RetN w0 g n cut (ncpyL cs i) F Z (.int .i64 (ncpyR cs))) := by
  obtain ⟨A, c, fl, hcs, hZ, h200, h49, H⟩ := HN
  have hn0 := crowd_nz hn
  have hlen : cs.length = fl.length := by rw [← hcs, List.length_map]
  have hm2 : fl.length ≤ 200 := by omega
  by_cases h0 : fl.length = 0
  · have e1 : ncpyL cs i = cs := if_pos (by omega)
    have e2 : ncpyR cs = 280 := if_pos (by omega)
    rw [e1, e2]
    clear e1 e2 hlen hm2
    go_enter Tryd.func12, Tryd.ntmps12
    go_wp2_with (first | ((with_reducible refine Hp.ld H ?_); refine ⟨rfl, ?_⟩; refine ⟨c_look rfl, ?_⟩; refine ⟨_, _, rfl, ?_⟩; (first | refine ⟨_, _, _, .z, ?_⟩ | refine ⟨_, _, _, .s .z, ?_⟩ | refine ⟨_, _, _, .s (.s .z), ?_⟩ | refine ⟨_, _, _, .s (.s (.s .z)), ?_⟩); refine ⟨_, rfl, ?_⟩; go_frame) | ((with_reducible refine Hp.lda H ?_); refine ⟨rfl, by kernel_rfl, ?_⟩; refine ⟨_, s_look rfl, ?_⟩; refine ⟨_, rfl, ?_⟩; (first | refine ⟨_, _, _, .z, ?_⟩ | refine ⟨_, _, _, .s .z, ?_⟩ | refine ⟨_, _, _, .s (.s .z), ?_⟩ | refine ⟨_, _, _, .s (.s (.s .z)), ?_⟩); refine ⟨rfl, ?_⟩; go_frame) | ((with_reducible refine Hp.lds H ?_); refine ⟨rfl, by kernel_rfl, ?_⟩; refine ⟨_, s_look rfl, ?_⟩; refine ⟨_, _, rfl, ?_⟩; (first | refine ⟨_, _, _, .z, ?_⟩ | refine ⟨_, _, _, .s .z, ?_⟩ | refine ⟨_, _, _, .s (.s .z), ?_⟩ | refine ⟨_, _, _, .s (.s (.s .z)), ?_⟩); (first | refine ⟨[_, _], rfl, rfl, ?_⟩ | refine ⟨[_, _, _, _], rfl, rfl, ?_⟩ | refine ⟨[_, _, _, _, _, _, _], rfl, rfl, ?_⟩ | refine ⟨[_, _, _], rfl, rfl, ?_⟩ | (fail)); go_frame) | ((with_reducible refine (nat_no0 h0 H hn0 _).mono ?_); rintro _ w1 ⟨rfl, HQ⟩; replace H := HQ; clear HQ))
    go_ret
    exact ⟨rfl, Z, fun _ h => h, A, c, fl, hcs, hZ, h200, h49, H⟩
  · have hpos : 0 < fl.length := by omega
    obtain ⟨gA, rfl⟩ := H.rowsA 1 rfl hpos
    obtain ⟨q, hq⟩ : ∃ q, natJ fl.length i = q := ⟨_, rfl⟩
    have hlt : q < fl.length := hq ▸ natJ_lt hpos i
    have hmem : fl[q] ∈ fl := List.getElem_mem hlt
    have ho : OkX ⟨fl[q].m, fl[q].rs, fl[q].l⟩ := (hZ _ hmem).1
    have hM : MgS w0 (F ++ Z) fl[q].m fl[q].rs fl[q].l := (hZ.S hmem w0).mono (sub_app F Z)
    have e1 : ncpyL cs i = nputL cs (cx fl[q]) := by
      unfold ncpyL nputL
      rw [if_neg (by omega)]
      have : cs[natI cs i]? = some (cx fl[q]) := by
        unfold natI
        rw [hlen, hq, ← hcs, List.getElem?_map, List.getElem?_eq_getElem hlt]
        rfl
      rw [this]
      rfl
    have e2 : ncpyR cs = nputR cs := if_neg (by omega)
    rw [e1, e2]
    clear e1 e2 hmem hlen h0
    go_enter Tryd.func12, Tryd.ntmps12
    go_wp2_with (first | ((with_reducible refine Hp.ld H ?_); refine ⟨rfl, ?_⟩; refine ⟨c_look rfl, ?_⟩; refine ⟨_, _, rfl, ?_⟩; (first | refine ⟨_, _, _, .z, ?_⟩ | refine ⟨_, _, _, .s .z, ?_⟩ | refine ⟨_, _, _, .s (.s .z), ?_⟩ | refine ⟨_, _, _, .s (.s (.s .z)), ?_⟩); refine ⟨_, rfl, ?_⟩; go_frame) | ((with_reducible refine Hp.lda H ?_); refine ⟨rfl, by kernel_rfl, ?_⟩; refine ⟨_, s_look rfl, ?_⟩; refine ⟨_, rfl, ?_⟩; (first | refine ⟨_, _, _, .z, ?_⟩ | refine ⟨_, _, _, .s .z, ?_⟩ | refine ⟨_, _, _, .s (.s .z), ?_⟩ | refine ⟨_, _, _, .s (.s (.s .z)), ?_⟩); refine ⟨rfl, ?_⟩; go_frame) | ((with_reducible refine Hp.lds H ?_); refine ⟨rfl, by kernel_rfl, ?_⟩; refine ⟨_, s_look rfl, ?_⟩; refine ⟨_, _, rfl, ?_⟩; (first | refine ⟨_, _, _, .z, ?_⟩ | refine ⟨_, _, _, .s .z, ?_⟩ | refine ⟨_, _, _, .s (.s .z), ?_⟩ | refine ⟨_, _, _, .s (.s (.s .z)), ?_⟩); (first | refine ⟨[_, _], rfl, rfl, ?_⟩ | refine ⟨[_, _, _, _], rfl, rfl, ?_⟩ | refine ⟨[_, _, _, _, _, _, _], rfl, rfl, ?_⟩ | refine ⟨[_, _, _], rfl, rfl, ?_⟩ | (fail)); go_frame) | ((with_reducible refine (nat_yes H hn0 hpos hm2 hk hq).mono ?_); rintro _ w1 ⟨rfl, HQ⟩; replace H := HQ; clear HQ) | ((with_reducible refine Hp.ldRow (f := mxC) mxC_len H ?_); refine ⟨rfl, by kernel_rfl, s_Msg, _, _, rfl, 1, _, _, _, rfl, q, rfl, hlt, ?_⟩; go_frame) | ((with_reducible refine (nput_o (NetZ.mk0 hcs hZ h200 h49 H) hM ho).mono ?_); rintro _ w1 ⟨rfl, Z2, hZs, HN⟩; clear H))
    go_ret
    exact ⟨rfl, Z2, hZs, HN⟩
theorem rows_erase {α : Type} {f : α → List Value} {sz : Nat} (hf : ∀ x, (f x).length = sz) : ∀ (l : List α) (i : Nat), i < l.length → (rowsC f l).take (i * sz) ++ (rowsC f l).drop ((i + 1) * sz) = rowsC f (l.eraseIdx i)
  | [], i, h => by simp at h
  | x :: l, 0, h => by
    rw [Nat.zero_mul, List.take_zero, List.nil_append, Nat.zero_add, Nat.one_mul, List.eraseIdx_cons_zero]
    unfold rowsC
    rw [List.map_cons, List.flatten_cons, ← hf x, List.drop_left]
  | x :: l, i + 1, h => by
    have ih := rows_erase hf l i (by simpa using h)
    have e : rowsC f (x :: l) = f x ++ rowsC f l := by unfold rowsC; rw [List.map_cons, List.flatten_cons]
    have e2 : rowsC f ((x :: l).eraseIdx (i + 1)) = f x ++ rowsC f (l.eraseIdx i) := by unfold rowsC; rw [List.eraseIdx_cons_succ, List.map_cons, List.flatten_cons]
    have h1 : (i + 1) * sz = (f x).length + i * sz := by rw [hf, Nat.add_mul]; omega
    have h2 : (i + 1 + 1) * sz = (f x).length + (i + 1) * sz := by rw [hf, Nat.add_mul (i + 1)]; omega
    have hT : (f x ++ rowsC f l).take ((i + 1) * sz) = f x ++ (rowsC f l).take (i * sz) := by
      rw [h1, List.take_append, List.take_of_length_le (by omega), Nat.add_sub_cancel_left]
    have hD : (f x ++ rowsC f l).drop ((i + 1 + 1) * sz) = (rowsC f l).drop ((i + 1) * sz) := by
      rw [h2, List.drop_append, List.drop_of_length_le (by omega), Nat.add_sub_cancel_left, List.nil_append]
    rw [e, e2, hT, hD, List.append_assoc, ih]
theorem rowsC_one {α : Type} {f : α → List Value} (h1 : ∀ x, ∀ u ∈ f x, u.oneCell' = true) (l : List α) : ∀ u ∈ rowsC f l, u.oneCell' = true := by
  intro u hu
  unfold rowsC at hu
  obtain ⟨y, hy, huy⟩ := List.mem_flatten.1 hu
  obtain ⟨x, _, rfl⟩ := List.mem_map.1 hy
  exact h1 x u huy
/-- s[i:], in a drawn region -/
theorem ex_slL {P : Program} {a : Act} {oi : Oper} {w : World} {t e : TypeId} {x lo : Operand} {b n c i m c2 s : Nat} {I : Int} {ad : Addr} (ho : oi.op = .slice t x (some lo) none none) (ht : P.underlying t = some (.slice e)) (hs : sizeT P e = some s) (hx : a.eval x = .slice (some ⟨b, 0, none⟩) n c) (hl : a.eval lo = .int .i64 I) (hI : I = (i : Int)) (hi : i ≤ n) (hm : n - i = m) (hc : c - i = c2) (had : (if c = i then (⟨b, 0, none⟩ : Addr) else ⟨b, i * s, none⟩) = ad) :
    (execOp a.eval oi).run P w = .ok (.value (.slice (some ad) m c2)) w := by
  subst hI hm hc had
  have hE : P.elem t = e := by simp [Program.elem, ht]
  have ht2 : P.underlying t = some (.slice (P.elem t)) := by rw [hE]; exact ht
  unfold sizeT at hs
  cases hq : P.info? e with
  | none => rw [hq] at hs; cases hs
  | some ti =>
    rw [hq] at hs
    simp only [Option.map_some, Option.some.injEq] at hs
    have hst : ((sizeOf e).run P w) = .ok s w := by simp [sizeOf, typeInfo, hq, hs]
    have h1 := run_slice_l (P := P) (w := w) t (some ⟨b, 0, none⟩) n c ht2 .i64 (i : Int) (by omega) (by omega)
    rw [hE, hst] at h1
    have h2 := run_sliceAt_slice (P := P) (w := w) t (.slice (some ⟨b, 0, none⟩) n c) (some (.int .i64 (i : Int))) none none ht2
    rw [h1] at h2
    simp only [execOp, ho, hx, hl, Option.map_some, Option.map_none, Sem.run_bind, h2, Result.andThen, sliced, Int.toNat_natCast]
    by_cases e : c = i
    · simp [e]
    · simp [e, Addr.add_lit]
/-- s[:i], in a drawn region -/
theorem ex_slH {P : Program} {a : Act} {oi : Oper} {w : World} {t e : TypeId} {x hi : Operand} {b n c i s : Nat} {I : Int} (ho : oi.op = .slice t x none (some hi) none) (ht : P.underlying t = some (.slice e)) (hs : sizeT P e = some s) (hx : a.eval x = .slice (some ⟨b, 0, none⟩) n c) (hl : a.eval hi = .int .i64 I) (hI : I = (i : Int)) (hi : i ≤ c) :
    (execOp a.eval oi).run P w = .ok (.value (.slice (some ⟨b, 0, none⟩) i c)) w := by
  subst hI
  have hE : P.elem t = e := by simp [Program.elem, ht]
  have ht2 : P.underlying t = some (.slice (P.elem t)) := by rw [hE]; exact ht
  unfold sizeT at hs
  cases hq : P.info? e with
  | none => rw [hq] at hs; cases hs
  | some ti =>
    rw [hq] at hs
    simp only [Option.map_some, Option.some.injEq] at hs
    have hst : ((sizeOf e).run P w) = .ok s w := by simp [sizeOf, typeInfo, hq, hs]
    have h1 := run_slice_h (P := P) (w := w) t (some ⟨b, 0, none⟩) n c ht2 .i64 (i : Int) (by omega) (by omega)
    rw [hE, hst] at h1
    have h2 := run_sliceAt_slice (P := P) (w := w) t (.slice (some ⟨b, 0, none⟩) n c) none (some (.int .i64 (i : Int))) none ht2
    rw [h1] at h2
    simp only [execOp, ho, hx, hl, Option.map_some, Option.map_none, Sem.run_bind, h2, Result.andThen, sliced, Int.toNat_natCast]
    by_cases e : c = 0
    · simp [e]
    · simp [e, Addr.add_lit]
theorem ms_z : ∀ u ∈ (Value.agg (mgC mg0).toArray).cells.toList, u.oneCell' = true := mgC_one mg0
set_option maxHeartbeats 4000000 in
theorem ndel_h {w0 w : World} {gA c i : Nat} {fl : List MX} {L : List Item} {j : Int} (H : Hp w0 w (mwI (some ⟨gA, 0, none⟩) c fl :: L)) (hi : i < fl.length) (hm : fl.length ≤ 200) (hj : j = (i : Int) + 1) :
    Calls Tryd.prog 34 #[.slice (some ⟨gA, 0, none⟩) fl.length c, .int .i64 (i : Int), .int .i64 j] w (RetH w0 (mwI (some ⟨gA, 0, none⟩) c (fl.eraseIdx i) :: L) (.slice (some ⟨gA, 0, none⟩) (fl.eraseIdx i).length c)) := by
  have hcap := own_caps (H.holds _ List.mem_cons_self)
  obtain ⟨m, hN⟩ : ∃ m, fl.length = i + 1 + m := ⟨fl.length - (i + 1), by omega⟩
  rw [hN] at hi hm hcap
  obtain ⟨c', rfl⟩ : ∃ c', c = i + 1 + m + c' := ⟨c - (i + 1 + m), by omega⟩
  obtain ⟨ad, had⟩ : ∃ ad : Addr, (if i + 1 + m + c' = i + 1 then (⟨gA, 0, none⟩ : Addr) else ⟨gA, (i + 1) * 27, none⟩) = ad := ⟨_, rfl⟩
  have hdel : ∀ w1, Hp w0 w1 (mwI (some ⟨gA, 0, none⟩) (i + 1 + m + c') fl :: L) → ∃ w', (Builtin.append_ #[37, 37] 37 #[.slice (some ⟨gA, 0, none⟩) i (i + 1 + m + c'), .slice (some ad) m (m + c')]).run Tryd.prog w1 = .ok (.slice (some ⟨gA, 0, none⟩) (i + m) (i + 1 + m + c')) w' ∧ Hp w0 w' (mwI (some ⟨gA, 0, none⟩) (i + 1 + m + c') (fl.eraseIdx i) :: L) := by
    intro w1 H
    obtain ⟨w', h1, h2⟩ := H.delRun ms_u ms_info 37 0 rfl (rowsC_one mxC_one fl) i m (m + c') hN ad (fun h => by rw [← had, if_neg (by omega)])
    refine ⟨w', h1, ?_⟩
    rw [rows_erase mxC_len fl i (by omega)] at h2
    have e : i + m = (fl.eraseIdx i).length := by rw [List.length_eraseIdx, if_pos (by omega)]; omega
    rw [e] at h2
    exact h2
  have hclr : ∀ w1, Hp w0 w1 (mwI (some ⟨gA, 0, none⟩) (i + 1 + m + c') (fl.eraseIdx i) :: L) → ∃ w', (Builtin.clear_ #[37] 0 #[.slice (some ⟨gA, (i + m) * 27, none⟩) (i + 1 + m - (i + m)) (i + 1 + m + c' - (i + m))]).run Tryd.prog w1 = .ok (.tuple #[]) w' ∧ Hp w0 w' (mwI (some ⟨gA, 0, none⟩) (i + 1 + m + c') (fl.eraseIdx i) :: L) := by
    intro w1 H
    have e : (fl.eraseIdx i).length = i + m := by rw [List.length_eraseIdx, if_pos (by omega)]; omega
    exact H.clrRun ms_u ms_info rfl (by decide) ms_z 0 0 rfl _ _ (by omega) _ (fun _ => by rw [e])
  have HCLR := Lib.hid hclr
  clear hclr
  have HDEL := Lib.hid hdel
  clear hdel
  have HAD := Lib.hid had
  clear had
  have hA0 : ((i : Int) == j) = false := beq_eq_false_iff_ne.2 (by omega)
  subst hj
  rw [hN]
  go_enter Tryd.func34, Tryd.ntmps34; go_wp2_with (first | (fail))
  refine hw_start [_] L H (by kernel_rfl) (fun w1 H => ?_)
  simp only [List.cons_append, List.nil_append] at H
  have hS : HpW _ _ w1 := ⟨[_], H⟩
  (refine hw_take hS 0 (by decide +kernel) (by decide +kernel) (by decide +kernel) ⟨_, rfl, rfl, ?_, ?_, fun _ _ _ h => h, ?_⟩; rotate_left; (intro w _; go_simp; try with_reducible rfl); go_frame)
  (refine hw_take hS 1 (by decide +kernel) (by decide +kernel) (by decide +kernel) ⟨_, rfl, rfl, ?_, ?_, fun _ _ _ h => h, ?_⟩; rotate_left; (intro w _; go_simp; try with_reducible rfl); go_frame)
  (refine hw_take hS 2 (by decide +kernel) (by decide +kernel) (by decide +kernel) ⟨_, rfl, rfl, _, fun w _ => ex_slH (i := i) rfl ms_u s_Msg rfl rfl rfl (by omega), fun _ _ _ h => h, ?_⟩; go_frame)
  (refine hw_take hS 3 (by decide +kernel) (by decide +kernel) (by decide +kernel) ⟨_, rfl, rfl, ?_, ?_, fun _ _ _ h => h, ?_⟩; rotate_left; (intro w _; go_simp; try with_reducible rfl); go_frame)
  (refine hw_take hS 4 (by decide +kernel) (by decide +kernel) (by decide +kernel) ⟨_, rfl, rfl, ?_, ?_, fun _ _ _ h => h, ?_⟩; rotate_left; (intro w _; go_simp; try with_reducible rfl); go_frame)
  (refine hw_take hS 5 (by decide +kernel) (by decide +kernel) (by decide +kernel) ⟨_, rfl, rfl, _, fun w _ => ex_slL (ad := ad) (i := i + 1) (m := m) (c2 := m + c') rfl ms_u s_Msg rfl rfl (Int.natCast_succ i).symm (Nat.le_add_right _ _) (by omega) (by omega) HAD.out, fun _ _ _ h => h, ?_⟩; go_frame)
  clear hS
  obtain ⟨w2, hrun, H2⟩ := HDEL.out w1 H
  refine hw_one 6 (by decide +kernel) ⟨_, rfl, rfl, fun K hK => ?_⟩
  refine hw_turn (ex_app rfl rfl rfl hrun) ?_
  clear hrun H
  have H := H2
  clear H2
  refine hK _ _ ⟨[_], H⟩ ?_
  clear hK K
  go_frame
  have hS : HpW _ _ w2 := ⟨[_], H⟩
  (refine hw_take hS 7 (by decide +kernel) (by decide +kernel) (by decide +kernel) ⟨_, rfl, rfl, ?_, ?_, fun _ _ _ h => h, ?_⟩; rotate_left; (intro w _; go_simp; try with_reducible rfl); go_frame)
  refine wpAnyH_done (by kernel_rfl) ?_ _
  clear hS
  obtain ⟨w3, hr3, H3⟩ := HCLR.out w2 H
  clear H
  have H := H3
  clear H3
  go_wp2_with (first | (fail))
  go_ret
  have e : i + m = (fl.eraseIdx i).length := by rw [List.length_eraseIdx, if_pos (by omega)]; omega
  refine ⟨?_, H⟩
  show Ending.returned (.slice (some ⟨gA, 0, none⟩) (i + m) (i + 1 + m + c')) = _
  rw [e]
/-- what Take answers: the message, with lists of its own; none -/
def RetTk (w0 : World) (g : Nat) (n : Int) (cut : List Bool) (cs : List MX) (i : Int) (F Z : List Item) (e : Ending) (w' : World) : Prop :=
  ∃ Z', Z ⊆ Z' ∧ ∃ cs', ntakL cs i = cs' ∧ NetZ w0 w' g n cut cs' F Z' ∧
    ((cs = [] ∧ e = .returned (.tuple #[.agg (mgC mg0).toArray, .int .i64 280])) ∨ ∃ x, cs[natI cs i]? = some (cx x) ∧ cs ≠ [] ∧ Held Z' [x] ∧ e = .returned (.tuple #[.agg (mgC x.m).toArray, .int .i64 0]))
theorem b_msg00 : Tryd.prog.built 34 [] = some (mgC mg0).toArray := by kernel_rfl
theorem erase_map {α β : Type} (f : α → β) : ∀ (l : List α) (i : Nat), (l.map f).eraseIdx i = (l.eraseIdx i).map f
  | [], i => by simp
  | x :: l, 0 => rfl
  | x :: l, i + 1 => by rw [List.map_cons, List.eraseIdx_cons_succ, List.eraseIdx_cons_succ, List.map_cons, erase_map f l i]
theorem tk_in {w0 w : World} {a b c r : Item} {Y : List Item} (H : Hp w0 w (a :: b :: c :: r :: Y)) : Hp w0 w (r :: a :: b :: c :: Y) := H.perm (perm_mid [a, b, c] [r] Y)
theorem tk_out {w0 w : World} {a b c r : Item} {Y : List Item} (H : Hp w0 w (r :: a :: b :: c :: Y)) : Hp w0 w (a :: b :: c :: r :: Y) := H.perm (perm_mid [r] [a, b, c] Y)
set_option maxHeartbeats 4000000 in
theorem ntake_o {w0 w : World} {g : Nat} {n : Int} {cut : List Bool} {cs : List MX} {F Z : List Item} (HN : NetZ w0 w g n cut cs F Z) (hn : crowdB n = true) (i : Int) (hk : i ≤ 9223372036854775807) :
    Calls Tryd.prog 9 #[.pointer (some ⟨g, 0, none⟩), .int .i64 i] w (RetTk w0 g n cut cs i F Z) := by
  obtain ⟨A, c, fl, hcs, hZ, h200, h49, H⟩ := HN
  have hn0 := crowd_nz hn
  have hlen : cs.length = fl.length := by rw [← hcs, List.length_map]
  have hm2 : fl.length ≤ 200 := by omega
  by_cases h0 : fl.length = 0
  · have e1 : ntakL cs i = cs := if_pos (by omega)
    have e3 : cs = [] := List.length_eq_zero_iff.1 (by omega)
    have HE := Lib.hid e1
    have HE3 := Lib.hid e3
    clear e1 e3 hlen hm2
    go_enter Tryd.func9, Tryd.ntmps9
    go_wp2_with (first | ((with_reducible refine Hp.allo (ty := 34) H ?_); refine ⟨rfl, ?_⟩; refine ⟨_, z_look rfl, ?_⟩; (clear H; intro gm w1 H); go_frame) | ((with_reducible refine Hp.ld H ?_); refine ⟨rfl, ?_⟩; refine ⟨c_look rfl, ?_⟩; refine ⟨_, _, rfl, ?_⟩; (first | refine ⟨_, _, _, .z, ?_⟩ | refine ⟨_, _, _, .s .z, ?_⟩ | refine ⟨_, _, _, .s (.s .z), ?_⟩ | refine ⟨_, _, _, .s (.s (.s .z)), ?_⟩); refine ⟨_, rfl, ?_⟩; go_frame) | ((with_reducible refine Hp.lda H ?_); refine ⟨rfl, by kernel_rfl, ?_⟩; refine ⟨_, s_look rfl, ?_⟩; refine ⟨_, rfl, ?_⟩; (first | refine ⟨_, _, _, .z, ?_⟩ | refine ⟨_, _, _, .s .z, ?_⟩ | refine ⟨_, _, _, .s (.s .z), ?_⟩ | refine ⟨_, _, _, .s (.s (.s .z)), ?_⟩); refine ⟨rfl, ?_⟩; go_frame) | ((with_reducible refine Hp.lds H ?_); refine ⟨rfl, by kernel_rfl, ?_⟩; refine ⟨_, s_look rfl, ?_⟩; refine ⟨_, _, rfl, ?_⟩; (first | refine ⟨_, _, _, .z, ?_⟩ | refine ⟨_, _, _, .s .z, ?_⟩ | refine ⟨_, _, _, .s (.s .z), ?_⟩ | refine ⟨_, _, _, .s (.s (.s .z)), ?_⟩); (first | refine ⟨[_, _], rfl, rfl, ?_⟩ | refine ⟨[_, _, _, _], rfl, rfl, ?_⟩ | refine ⟨[_, _, _, _, _, _, _], rfl, rfl, ?_⟩ | refine ⟨[_, _, _], rfl, rfl, ?_⟩ | (fail)); go_frame) | ((with_reducible refine Hp.stv H ?_); refine ⟨rfl, ?_⟩; refine ⟨c_look rfl, ?_⟩; (first | refine ⟨.bool _, rfl, ?_⟩ | refine ⟨.int _ _, rfl, ?_⟩ | refine ⟨.string _, rfl, ?_⟩ | refine ⟨.slice _ _ _, rfl, ?_⟩ | refine ⟨.pointer _, rfl, ?_⟩); refine ⟨rfl, _, _, rfl, ?_⟩; (first | refine ⟨_, _, _, .z, ?_⟩ | refine ⟨_, _, _, .s .z, ?_⟩ | refine ⟨_, _, _, .s (.s .z), ?_⟩ | refine ⟨_, _, _, .s (.s (.s .z)), ?_⟩); refine ⟨⟨_, rfl⟩, ?_⟩; (clear H; intro w1 H; simp only [List.set] at H); go_frame) | ((with_reducible refine Hp.sta H ?_); refine ⟨rfl, ?_⟩; refine ⟨_, s_look rfl, ?_⟩; refine ⟨_, rfl, _, rfl, rfl, ?_⟩; (first | refine ⟨_, _, _, .z, ?_⟩ | refine ⟨_, _, _, .s .z, ?_⟩ | refine ⟨_, _, _, .s (.s .z), ?_⟩ | refine ⟨_, _, _, .s (.s (.s .z)), ?_⟩); refine ⟨rfl, rfl, ?_⟩; (clear H; intro w1 H; simp only [List.set] at H); go_frame) | ((with_reducible refine Hp.str H ?_); refine ⟨rfl, ?_⟩; refine ⟨_, s_look rfl, ?_⟩; refine ⟨_, _, rfl, _, rfl, rfl, ?_⟩; (first | refine ⟨_, _, _, .z, ?_⟩ | refine ⟨_, _, _, .s .z, ?_⟩ | refine ⟨_, _, _, .s (.s .z), ?_⟩ | refine ⟨_, _, _, .s (.s (.s .z)), ?_⟩); refine ⟨rfl, _, rfl, _, rfl, Nat.le_of_ble_eq_true rfl, ?_⟩; (clear H; intro w1 H; simp only [List.set] at H); go_frame) | ((with_reducible refine Hp.bdl (t := 34) (parts := []) H ?_); refine ⟨rfl, _, b_msg00, ?_⟩; go_frame) | ((with_reducible refine (nat_no0 h0 H.rot2 hn0 _).mono ?_); rintro _ w1 ⟨rfl, HQ⟩; replace H := HQ.rot2; clear HQ))
    exact bodyPost_ret (v := .tuple #[.agg (mgC mg0).toArray, .int .i64 280]) (results_ct rfl rfl (H.var (by kernel_rfl) (t := 34) (cs := mgC mg0) .z s_Msg) rfl) rfl ⟨Z, fun _ h => h, cs, HE.out, ⟨A, c, fl, hcs, hZ, h200, h49, H.tail⟩, .inl ⟨HE3.out, rfl⟩⟩
  · have hpos : 0 < fl.length := by omega
    obtain ⟨gA, rfl⟩ := H.rowsA 1 rfl hpos
    obtain ⟨q, hq⟩ : ∃ q, natJ fl.length i = q := ⟨_, rfl⟩
    have hlt : q < fl.length := hq ▸ natJ_lt hpos i
    have hmem : fl[q] ∈ fl := List.getElem_mem hlt
    have e1 : ntakL cs i = (fl.eraseIdx q).map cx := by
      unfold ntakL natI
      rw [if_neg (by omega), hlen, hq, ← hcs, erase_map]
    have e2 : cs[natI cs i]? = some (cx fl[q]) := by
      unfold natI
      rw [hlen, hq, ← hcs, List.getElem?_map, List.getElem?_eq_getElem hlt]
      rfl
    have e3 : cs ≠ [] := fun h => by rw [h] at hlen; simp at hlen; omega
    have HE := Lib.hid e1
    have HE2 := Lib.hid e2
    have HE3 := Lib.hid e3
    have HMEM := Lib.hid hmem
    clear e1 e2 e3 hmem hlen h0
    have hq1 : IntKind.i64.wrap ((q : Int) + 1) = (q : Int) + 1 := IntWalk.i64_in _ (by omega)
    go_enter Tryd.func9, Tryd.ntmps9
    go_wp2_with (first | ((with_reducible refine Hp.allo (ty := 34) H ?_); refine ⟨rfl, ?_⟩; refine ⟨_, z_look rfl, ?_⟩; (clear H; intro gm w1 H); go_frame) | ((with_reducible refine Hp.ld H ?_); refine ⟨rfl, ?_⟩; refine ⟨c_look rfl, ?_⟩; refine ⟨_, _, rfl, ?_⟩; (first | refine ⟨_, _, _, .z, ?_⟩ | refine ⟨_, _, _, .s .z, ?_⟩ | refine ⟨_, _, _, .s (.s .z), ?_⟩ | refine ⟨_, _, _, .s (.s (.s .z)), ?_⟩); refine ⟨_, rfl, ?_⟩; go_frame) | ((with_reducible refine Hp.lda H ?_); refine ⟨rfl, by kernel_rfl, ?_⟩; refine ⟨_, s_look rfl, ?_⟩; refine ⟨_, rfl, ?_⟩; (first | refine ⟨_, _, _, .z, ?_⟩ | refine ⟨_, _, _, .s .z, ?_⟩ | refine ⟨_, _, _, .s (.s .z), ?_⟩ | refine ⟨_, _, _, .s (.s (.s .z)), ?_⟩); refine ⟨rfl, ?_⟩; go_frame) | ((with_reducible refine Hp.lds H ?_); refine ⟨rfl, by kernel_rfl, ?_⟩; refine ⟨_, s_look rfl, ?_⟩; refine ⟨_, _, rfl, ?_⟩; (first | refine ⟨_, _, _, .z, ?_⟩ | refine ⟨_, _, _, .s .z, ?_⟩ | refine ⟨_, _, _, .s (.s .z), ?_⟩ | refine ⟨_, _, _, .s (.s (.s .z)), ?_⟩); (first | refine ⟨[_, _], rfl, rfl, ?_⟩ | refine ⟨[_, _, _, _], rfl, rfl, ?_⟩ | refine ⟨[_, _, _, _, _, _, _], rfl, rfl, ?_⟩ | refine ⟨[_, _, _], rfl, rfl, ?_⟩ | (fail)); go_frame) | ((with_reducible refine Hp.stv H ?_); refine ⟨rfl, ?_⟩; refine ⟨c_look rfl, ?_⟩; (first | refine ⟨.bool _, rfl, ?_⟩ | refine ⟨.int _ _, rfl, ?_⟩ | refine ⟨.string _, rfl, ?_⟩ | refine ⟨.slice _ _ _, rfl, ?_⟩ | refine ⟨.pointer _, rfl, ?_⟩); refine ⟨rfl, _, _, rfl, ?_⟩; (first | refine ⟨_, _, _, .z, ?_⟩ | refine ⟨_, _, _, .s .z, ?_⟩ | refine ⟨_, _, _, .s (.s .z), ?_⟩ | refine ⟨_, _, _, .s (.s (.s .z)), ?_⟩); refine ⟨⟨_, rfl⟩, ?_⟩; (clear H; intro w1 H; simp only [List.set] at H); go_frame) | ((with_reducible refine Hp.sta H ?_); refine ⟨rfl, ?_⟩; refine ⟨_, s_look rfl, ?_⟩; refine ⟨_, rfl, _, rfl, rfl, ?_⟩; (first | refine ⟨_, _, _, .z, ?_⟩ | refine ⟨_, _, _, .s .z, ?_⟩ | refine ⟨_, _, _, .s (.s .z), ?_⟩ | refine ⟨_, _, _, .s (.s (.s .z)), ?_⟩); refine ⟨rfl, rfl, ?_⟩; (clear H; intro w1 H; simp only [List.set] at H); go_frame) | ((with_reducible refine Hp.str H ?_); refine ⟨rfl, ?_⟩; refine ⟨_, s_look rfl, ?_⟩; refine ⟨_, _, rfl, _, rfl, rfl, ?_⟩; (first | refine ⟨_, _, _, .z, ?_⟩ | refine ⟨_, _, _, .s .z, ?_⟩ | refine ⟨_, _, _, .s (.s .z), ?_⟩ | refine ⟨_, _, _, .s (.s (.s .z)), ?_⟩); refine ⟨rfl, _, rfl, _, rfl, Nat.le_of_ble_eq_true rfl, ?_⟩; (clear H; intro w1 H; simp only [List.set] at H); go_frame) | ((with_reducible refine Hp.bdl (t := 34) (parts := []) H ?_); refine ⟨rfl, _, b_msg00, ?_⟩; go_frame) | ((with_reducible refine (nat_yes H.rot2 hn0 hpos hm2 hk hq).mono ?_); rintro _ w1 ⟨rfl, HQ⟩; replace H := HQ.rot2; clear HQ) | ((with_reducible refine Hp.ldRow (f := mxC) mxC_len H ?_); refine ⟨rfl, by kernel_rfl, s_Msg, _, _, rfl, 2, _, _, _, rfl, q, rfl, hlt, ?_⟩; go_frame) | ((with_reducible refine (ndel_h (tk_in H) hlt hm2 rfl).mono ?_); rintro _ w1 ⟨rfl, HQ⟩; replace H := tk_out HQ; clear HQ))
    refine bodyPost_ret (v := .tuple #[.agg (mgC fl[q].m).toArray, .int .i64 0]) (results_ct rfl rfl (H.var (by kernel_rfl) (t := 34) (cs := mgC fl[q].m) (.s .z) s_Msg) rfl) rfl ⟨Z, fun _ h => h, _, HE.out, ⟨_, c, fl.eraseIdx q, rfl, hZ.sub (List.eraseIdx_subset), ?_, h49, H.tail.tail⟩, .inr ⟨fl[q], HE2.out, HE3.out, hZ.sub ?_, rfl⟩⟩
    · rw [List.length_map]
      exact Nat.le_trans (List.length_eraseIdx_le _ _) hm2
    · intro x hx
      obtain rfl := List.mem_singleton.1 hx
      exact HMEM.out
theorem ntake_no {w0 w : World} {g : Nat} {n : Int} {cut : List Bool} {cs : List MX} {F Z : List Item} (HN : NetZ w0 w g n cut cs F Z) (hn : crowdB n = true) (i : Int) (hk : i ≤ 9223372036854775807) (h0 : cs = []) :
    Calls Tryd.prog 9 #[.pointer (some ⟨g, 0, none⟩), .int .i64 i] w (RetN w0 g n cut cs F Z (.tuple #[.agg (mgC mg0).toArray, .int .i64 280])) := by
  refine (ntake_o HN hn i hk).mono ?_
  rintro e w' ⟨Z', hZ, cs', h1, h2, h3⟩
  have e1 : ntakL cs i = cs := if_pos (by rw [h0]; rfl)
  rw [e1] at h1
  subst h1
  rcases h3 with ⟨_, rfl⟩ | ⟨x, _, hne, _, _⟩
  · exact ⟨rfl, Z', hZ, h2⟩
  · exact absurd h0 hne
def RetTy (w0 : World) (g : Nat) (n : Int) (cut : List Bool) (cs cs' : List MX) (i : Int) (F Z : List Item) (e : Ending) (w' : World) : Prop :=
  ∃ x Z', cs[natI cs i]? = some (cx x) ∧ e = .returned (.tuple #[.agg (mgC x.m).toArray, .int .i64 0]) ∧ Z ⊆ Z' ∧ Held Z' [x] ∧ NetZ w0 w' g n cut cs' F Z'
theorem ntake_yes {w0 w : World} {g : Nat} {n : Int} {cut : List Bool} {cs cs' : List MX} {F Z : List Item} (HN : NetZ w0 w g n cut cs F Z) (hn : crowdB n = true) (i : Int) (hk : i ≤ 9223372036854775807) (h0 : cs ≠ []) (h1 : ntakL cs i = cs') :
    Calls Tryd.prog 9 #[.pointer (some ⟨g, 0, none⟩), .int .i64 i] w (RetTy w0 g n cut cs cs' i F Z) := by
  subst h1
  refine (ntake_o HN hn i hk).mono ?_
  rintro e w' ⟨Z', hZ, cs', h1, h2, h3⟩
  subst h1
  rcases h3 with ⟨h, rfl⟩ | ⟨x, hx, hne, hh, rfl⟩
  · exact absurd h h0
  · exact ⟨x, Z', hx, rfl, hZ, hh, h2⟩
set_option maxHeartbeats 1000000 in
theorem ndrop_o {w0 w : World} {g : Nat} {n : Int} {cut : List Bool} {cs : List MX} {F Z : List Item} (HN : NetZ w0 w g n cut cs F Z) (hn : crowdB n = true) (i : Int) (hk : i ≤ 9223372036854775807) :
    Calls Tryd.prog 13 #[.pointer (some ⟨g, 0, none⟩), .int .i64 i] w (RetN w0 g n cut (ntakL cs i) F Z (.int .i64 (natE cs))) := by
  by_cases h0 : cs = []
  · have e1 : ntakL cs i = cs := if_pos (by rw [h0]; rfl)
    have e2 : natE cs = 280 := if_pos (by rw [h0]; rfl)
    rw [e1, e2]
    clear e1 e2
    go_enter Tryd.func13, Tryd.ntmps13
    go_wp2_with (first | ((with_reducible refine Hp.allo (ty := 34) H ?_); refine ⟨rfl, ?_⟩; refine ⟨_, z_look rfl, ?_⟩; (clear H; intro gm w1 H); go_frame) | ((with_reducible refine Hp.sta H ?_); refine ⟨rfl, ?_⟩; refine ⟨_, s_look rfl, ?_⟩; refine ⟨_, rfl, _, rfl, rfl, ?_⟩; (first | refine ⟨_, _, _, .z, ?_⟩ | refine ⟨_, _, _, .s .z, ?_⟩ | refine ⟨_, _, _, .s (.s .z), ?_⟩ | refine ⟨_, _, _, .s (.s (.s .z)), ?_⟩); refine ⟨rfl, rfl, ?_⟩; (clear H; intro w1 H; simp only [List.set] at H); go_frame) | ((with_reducible refine Hp.str H ?_); refine ⟨rfl, ?_⟩; refine ⟨_, s_look rfl, ?_⟩; refine ⟨_, _, rfl, _, rfl, rfl, ?_⟩; (first | refine ⟨_, _, _, .z, ?_⟩ | refine ⟨_, _, _, .s .z, ?_⟩ | refine ⟨_, _, _, .s (.s .z), ?_⟩ | refine ⟨_, _, _, .s (.s (.s .z)), ?_⟩); refine ⟨rfl, _, rfl, _, rfl, Nat.le_of_ble_eq_true rfl, ?_⟩; (clear H; intro w1 H; simp only [List.set] at H); go_frame) | ((with_reducible refine (ntake_no HN hn _ hk h0).mono ?_); rintro _ w1 ⟨rfl, Z2, hZs, A, c, fl, hcs, hZ, h200, h49, H⟩))
    go_ret
    exact ⟨rfl, Z2, hZs, A, c, fl, hcs, hZ, h200, h49, H.tail⟩
  · have e2 : natE cs = 0 := if_neg (fun h => h0 (List.length_eq_zero_iff.1 h))
    rw [e2]
    clear e2
    go_enter Tryd.func13, Tryd.ntmps13
    go_wp2_with (first | ((with_reducible refine Hp.allo (ty := 34) H ?_); refine ⟨rfl, ?_⟩; refine ⟨_, z_look rfl, ?_⟩; (clear H; intro gm w1 H); go_frame) | ((with_reducible refine Hp.sta H ?_); refine ⟨rfl, ?_⟩; refine ⟨_, s_look rfl, ?_⟩; refine ⟨_, rfl, _, rfl, rfl, ?_⟩; (first | refine ⟨_, _, _, .z, ?_⟩ | refine ⟨_, _, _, .s .z, ?_⟩ | refine ⟨_, _, _, .s (.s .z), ?_⟩ | refine ⟨_, _, _, .s (.s (.s .z)), ?_⟩); refine ⟨rfl, rfl, ?_⟩; (clear H; intro w1 H; simp only [List.set] at H); go_frame) | ((with_reducible refine Hp.str H ?_); refine ⟨rfl, ?_⟩; refine ⟨_, s_look rfl, ?_⟩; refine ⟨_, _, rfl, _, rfl, rfl, ?_⟩; (first | refine ⟨_, _, _, .z, ?_⟩ | refine ⟨_, _, _, .s .z, ?_⟩ | refine ⟨_, _, _, .s (.s .z), ?_⟩ | refine ⟨_, _, _, .s (.s (.s .z)), ?_⟩); refine ⟨rfl, _, rfl, _, rfl, Nat.le_of_ble_eq_true rfl, ?_⟩; (clear H; intro w1 H; simp only [List.set] at H); go_frame) | ((with_reducible refine (ntake_yes HN hn _ hk h0 rfl).mono ?_); rintro _ w1 ⟨x, Z2, hx, rfl, hZs, hh, A, c, fl, hcs, hZ, h200, h49, H⟩))
    go_ret
    exact ⟨rfl, Z2, hZs, A, c, fl, hcs, hZ, h200, h49, H.tail⟩
end Go.Proofs.YtiieakndjheknaaDoor
